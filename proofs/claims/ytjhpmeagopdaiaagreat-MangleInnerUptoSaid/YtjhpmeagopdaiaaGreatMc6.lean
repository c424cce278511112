/- Parts of the proofs of this seat, laid together. -/
import Derived.BigRegion
import Derived.Test.YtjhpmeagopdaiaaGreatRows
import Derived.WalkKit
import Derived.ProofKit
import Derived.OpenShut
import Derived.ChangeOld
import Derived.Below
import Derived.SizedLaws
import Derived.JoinedCond
import Derived.Deep.Fields
import Derived.Test.YtjhpmeagopdaiaaGreatMc5
namespace Go.Proofs.YtjhpmeagopdaiaaGreat
open Go.RowKit
set_option linter.unusedVariables false
set_option linter.unusedSimpArgs false
set_option maxHeartbeats 8000000
set_option maxRecDepth 100000
theorem rrw_tcp (p : Pkt) (t : Tup) (A1 : Option Addr) (n1 c1 : Nat) (A2 : Option Addr) (n2 c2 : Nat) (w : World) (k1 : Bs w A1 n1 c1 p.opt) (k2 : Bs w A2 n2 c2 p.dat) (hp : p.Ok) (ht : t.Ok) (h7 : n2 ≤ 17592186044400) (hne : (t.proto != p.proto) = false) (hpr : p.proto = 6) (T : Tup) (ho : ∀ W, Bs W A2 n2 c2 p.dat → Calls Tryz.prog 9 #[(.agg #[.int .u8 (p).tos, .int .u16 (p).id, .bool (p).keep, .int .u8 (p).ttl, .int .u8 (p).proto, .int .u32 (p).src, .int .u32 (p).dst, .slice A1 n1 c1, .slice A2 n2 c2])] W (TtPost W T 0)) : Calls Tryz.prog 14 #[(.agg #[.int .u8 (p).tos, .int .u16 (p).id, .bool (p).keep, .int .u8 (p).ttl, .int .u8 (p).proto, .int .u32 (p).src, .int .u32 (p).dst, .slice A1 n1 c1, .slice A2 n2 c2]), (.agg #[.int .u8 (t).proto, .int .u32 (t).src, .int .u32 (t).dst, .int .u16 (t).sp, .int .u16 (t).dp])] w (WiPost w (sbP (rwQ p t) (tcW p t)) (sbE (rwQ p t) (tcW p t))) := by
  have ct := fun W (h : Bs W A2 n2 c2 p.dat) => rtcp_any p hp A1 n1 c1 A2 n2 c2 W h h7
  have hso := tcS_ok p
  have hdl : (tcS p).dat.length ≤ 140737488351232 := by
    have := k2.len
    unfold tcS
    split
    · unfold rdS; simp only [List.length_drop]; omega
    · simp [zS]
  have cb : ∀ W OA on oc DA dn dc, Bs W A1 n1 c1 p.opt → Os W OA on oc (tcS p).opts → Bs W DA dn dc (tcS p).dat → dn ≤ 140737488351232 → Calls Tryz.prog 42 #[.agg #[.int .u8 p.tos, .int .u16 p.id, .bool p.keep, .int .u8 p.ttl, .int .u8 p.proto, .int .u32 t.src, .int .u32 t.dst, .slice A1 n1 c1, .slice A2 n2 c2], .agg #[.int .u16 t.sp, .int .u16 t.dp, .int .u32 (tcS p).seq, .int .u32 (tcS p).ack, .int .u8 (tcS p).flags, .int .u16 (tcS p).win, .int .u16 (tcS p).urg, .slice OA on oc, .slice DA dn dc]] W (WiPost W (sbP (rwQ p t) (tcW p t)) (sbE (rwQ p t) (tcW p t))) :=
    fun W OA on oc DA dn dc a b c d => rsbuild_any (rwQ p t) (rwQ_ok hp ht) A1 n1 c1 A2 n2 c2 (tcW p t) (tcW_ok p ht) OA on oc DA dn dc W a b c (by omega)
  obtain ⟨s, hs⟩ : ∃ s, tcS p = s := ⟨_, rfl⟩
  obtain ⟨F, hF⟩ : ∃ s, tcE p = s := ⟨_, rfl⟩
  rw [hs] at hso hdl
  rw [hs, hF] at ct
  rw [hs] at cb
  have hsO := hso.opts
  clear hs hF hp ht hso
  obtain ⟨Q, hQ⟩ : ∃ x, sbP (rwQ p t) (tcW p t) = x := ⟨_, rfl⟩
  obtain ⟨E, hE⟩ : ∃ x, sbE (rwQ p t) (tcW p t) = x := ⟨_, rfl⟩
  rw [hQ, hE] at cb
  rw [hQ, hE]
  clear hQ hE
  have y6 : (p.proto == 6) = true := by rw [hpr]; rfl
  clear hpr
  obtain ⟨k, hk, w1, hw1, P1, U1, Z1, R1⟩ := nwI3 w #[.int .u8 (p).tos, .int .u16 (p).id, .bool (p).keep, .int .u8 (p).ttl, .int .u8 (p).proto, .int .u32 (p).src, .int .u32 (p).dst, .slice A1 n1 c1, .slice A2 n2 c2] 26 #[.int .u8 (t).proto, .int .u32 (t).src, .int .u32 (t).dst, .int .u16 (t).sp, .int .u16 (t).dp] 29 #[.int .u8 0, .int .u16 0, .bool false, .int .u8 0, .int .u8 0, .int .u32 0, .int .u32 0, .slice none 0 0, .slice none 0 0] 26
  have Pc1 := P1.cell
  have Uc1 := U1.cell
  have Zc1 := Z1.cell
  have Pl1 := P1.lt
  have Ul1 := U1.lt
  have Zl1 := Z1.lt
  have x1 := (k1).below R1
  have y1 := (k2).below R1
  go_enter Tryz.func14, Tryz.ntmps14
  go_wp2_with (go_at_call 9; ((with_reducible refine (ho w1 y1).mono ?_); rintro e u2 ⟨⟨rfl, hB2⟩⟩); (obtain ⟨w2, hw2, V2, kG2, hkG2, G2⟩ := nw1 u2 #[.int .u8 (T).proto, .int .u32 (T).src, .int .u32 (T).dst, .int .u16 (T).sp, .int .u16 (T).dp] 29); have Gc2 := G2.cell; have T2 := below_then hB2 V2; have P2 := P1.below T2; have Pc2 := P2.cell; clear Pc1; have U2 := U1.below T2; have Uc2 := U2.cell; clear Uc1; have Z2 := Z1.below T2; have Zc2 := Z2.cell; clear Zc1; have x2 := x1.below T2; have y2 := y1.below T2; have R2 := below_then R1 T2; (obtain ⟨w3, hw3, V3, kX3, hkX3, X3⟩ := nw1 w2 #[.int .u8 (p).tos, .int .u16 (p).id, .bool (p).keep, .int .u8 (p).ttl, .int .u8 (p).proto, .int .u32 (p).src, .int .u32 (p).dst, .slice A1 n1 c1, .slice A2 n2 c2] 26); have Xc3 := X3.cell; have P3 := P2.below V3; have Pc3 := P3.cell; have U3 := U2.below V3; have Uc3 := U3.cell; have Z3 := Z2.below V3; have Zc3 := Z3.cell; have G3 := G2.below V3; have Gc3 := G3.cell; have x3 := x2.below V3; have y3 := y2.below V3; have R3 := below_then R2 V3)
  have gk := Z2.lt
  have Xs := X3.set_ 5 (.int .u32 t.src)
  simp only [List.setIfInBounds_toArray, List.set_cons_zero, List.set_cons_succ] at Xs
  have Xsc := Xs.cell
  have Usc := (U3.far ⟨kX3, 5, none⟩ (by show kX3 ≠ _; omega) (.int .u32 t.src)).cell
  obtain ⟨w4, hw4, S4⟩ : ∃ wf, ((w3.setCell ⟨kX3, 5, none⟩ (.int .u32 t.src)).setCell ⟨kX3, 6, none⟩ (.int .u32 t.dst)).drew = wf ∧ Sto w3 kX3 wf #[.int .u8 p.tos, .int .u16 p.id, .bool p.keep, .int .u8 p.ttl, .int .u8 p.proto, .int .u32 t.src, .int .u32 t.dst, .slice A1 n1 c1, .slice A2 n2 c2] 26 := ⟨_, rfl, by
    have := (((Sto.nil X3).set 5 (.int .u32 t.src)).set 6 (.int .u32 t.dst)).drew
    simp only [List.setIfInBounds_toArray, List.set_cons_zero, List.set_cons_succ] at this
    exact this⟩
  go_region
  clear Xsc Usc Xs
  have R4 : Below w.heap.size w w4 := S4.bel R3 (by have := R2.size; omega)
  have P4 := S4.other (by omega) P3
  have Pc4 := P4.cell
  have U4 := S4.other (by omega) U3
  have Uc4 := U4.cell
  have Z4 := S4.other (by omega) Z3
  have Zc4 := Z4.cell
  have X4 := S4.blk
  have Xc4 := X4.cell
  have x4 := k1.below R4
  have y4 := k2.below R4
  clear Pc3 Uc3 Zc3 Xc3 Gc3
  have gP := P4.lt
  have gU := U4.lt
  have gZ := Z4.lt
  have gX := X4.lt
  go_wp2_with (go_at_call 32; ((with_reducible refine (ct w4 y4).mono ?_); rintro e u5 ⟨⟨OA, on, oc, DA, dn, dc, rfl, oo, hon, od, hB5⟩⟩); (obtain ⟨w5, hw5, V5, kS5, hkS5, S5⟩ := nw1 u5 #[.int .u16 (s).src, .int .u16 (s).dst, .int .u32 (s).seq, .int .u32 (s).ack, .int .u8 (s).flags, .int .u16 (s).win, .int .u16 (s).urg, .slice OA on oc, .slice DA dn dc] 60); have Sc5 := S5.cell; have T5 := below_then hB5 V5; have P5 := P4.below T5; have Pc5 := P5.cell; clear Pc4; have U5 := U4.below T5; have Uc5 := U5.cell; clear Uc4; have Z5 := Z4.below T5; have Zc5 := Z5.cell; clear Zc4; have X5 := X4.below T5; have Xc5 := X5.cell; clear Xc4; have x5 := x4.below T5; have y5 := y4.below T5; have R5 := below_then R4 T5)
  have gS : w4.heap.size ≤ kS5 := by rw [← hkS5]; exact hB5.size
  have Xs := S5.set_ 0 (.int .u16 t.sp)
  simp only [List.setIfInBounds_toArray, List.set_cons_zero, List.set_cons_succ] at Xs
  have Xsc := Xs.cell
  have Usc := (U5.far ⟨kS5, 0, none⟩ (by show kS5 ≠ _; omega) (.int .u16 t.sp)).cell
  obtain ⟨w6, hw6, S6⟩ : ∃ wf, ((w5.setCell ⟨kS5, 0, none⟩ (.int .u16 t.sp)).setCell ⟨kS5, 1, none⟩ (.int .u16 t.dp)).drew = wf ∧ Sto w5 kS5 wf #[.int .u16 t.sp, .int .u16 t.dp, .int .u32 s.seq, .int .u32 s.ack, .int .u8 s.flags, .int .u16 s.win, .int .u16 s.urg, .slice OA on oc, .slice DA dn dc] 60 := ⟨_, rfl, by
    have := (((Sto.nil S5).set 0 (.int .u16 t.sp)).set 1 (.int .u16 t.dp)).drew
    simp only [List.setIfInBounds_toArray, List.set_cons_zero, List.set_cons_succ] at this
    exact this⟩
  go_region
  clear Xsc Usc Xs
  have B6 : Below u5.heap.size u5 w6 := S6.bel V5 (by omega)
  have B46 : Below w4.heap.size w4 w6 := S6.bel T5 (by omega)
  have Ks6 := (oo.os (by omega) hsO).below B6
  have od6 := od.bs.below B6
  have hdn : dn ≤ 140737488351232 := by have := od.len; omega
  have Sc6 := S6.blk.cell
  have X6 := X4.below B46
  have Xc6 := X6.cell
  have Z6 := Z4.below B46
  have Zc6 := Z6.cell
  have x6 := x4.below B46
  have R6 := below_then R4 B46
  clear Pc5 Uc5 Zc5 Sc5 Xc5
  go_wp2_with (go_at_call 42; ((with_reducible refine (cb w6 OA on oc DA dn dc x6 Ks6 od6 hdn).mono ?_); rintro e w7 ⟨⟨E1, e1, f1, E2, e2, f2, rfl, o1, o2, hB7⟩⟩); have Z7 := Z6.below hB7; have Zc7 := Z7.cell; have R7 := below_then R6 hB7)
  have sz := R6.size
  have zl := Z6.lt
  obtain ⟨wf, hwf, Sf⟩ := store9 Z7 (.int .u8 Q.tos) (.int .u16 Q.id) (.bool Q.keep) (.int .u8 Q.ttl) (.int .u8 Q.proto) (.int .u32 Q.src) (.int .u32 Q.dst) (.slice E1 e1 f1) (.slice E2 e2 f2)
  rw [hwf]
  have pf := Sf.blk.cell
  exact bodyPost_ret (v := .tuple #[(.agg #[.int .u8 (Q).tos, .int .u16 (Q).id, .bool (Q).keep, .int .u8 (Q).ttl, .int .u8 (Q).proto, .int .u32 (Q).src, .int .u32 (Q).dst, .slice E1 e1 f1, .slice E2 e2 f2]), .int .i64 E]) (by simp [results, Tryz.results14, go_sem, pf]) rfl ⟨⟨E1, e1, f1, E2, e2, f2, rfl, (Sf.own o1 (fun a h => by have := o1.ge a h; omega)).mono (by omega), (Sf.own o2 (fun a h => by have := o2.ge a h; omega)).mono (by omega), Sf.bel R7 (by omega)⟩⟩
theorem rrw_udp (p : Pkt) (t : Tup) (A1 : Option Addr) (n1 c1 : Nat) (A2 : Option Addr) (n2 c2 : Nat) (w : World) (k1 : Bs w A1 n1 c1 p.opt) (k2 : Bs w A2 n2 c2 p.dat) (hp : p.Ok) (ht : t.Ok) (h7 : n2 ≤ 17592186044400) (hne : (t.proto != p.proto) = false) (hpr : p.proto = 17) (T : Tup) (ho : ∀ W, Bs W A2 n2 c2 p.dat → Calls Tryz.prog 9 #[(.agg #[.int .u8 (p).tos, .int .u16 (p).id, .bool (p).keep, .int .u8 (p).ttl, .int .u8 (p).proto, .int .u32 (p).src, .int .u32 (p).dst, .slice A1 n1 c1, .slice A2 n2 c2])] W (TtPost W T 0)) : Calls Tryz.prog 14 #[(.agg #[.int .u8 (p).tos, .int .u16 (p).id, .bool (p).keep, .int .u8 (p).ttl, .int .u8 (p).proto, .int .u32 (p).src, .int .u32 (p).dst, .slice A1 n1 c1, .slice A2 n2 c2]), (.agg #[.int .u8 (t).proto, .int .u32 (t).src, .int .u32 (t).dst, .int .u16 (t).sp, .int .u16 (t).dp])] w (WiPost w (dbP (rwQ p t) (udW p t)) (dbE (rwQ p t) (udW p t))) := by
  have ct := fun W (h : Bs W A2 n2 c2 p.dat) => rudp_any p hp A1 n1 c1 A2 n2 c2 W h
  have cb : ∀ W DA dn dc, Bs W A1 n1 c1 p.opt → Bs W DA dn dc (udD p).dat → Calls Tryz.prog 30 #[.agg #[.int .u8 p.tos, .int .u16 p.id, .bool p.keep, .int .u8 p.ttl, .int .u8 p.proto, .int .u32 t.src, .int .u32 t.dst, .slice A1 n1 c1, .slice A2 n2 c2], .agg #[.int .u16 t.sp, .int .u16 t.dp, .bool (udD p).bare, .slice DA dn dc]] W (WiPost W (dbP (rwQ p t) (udW p t)) (dbE (rwQ p t) (udW p t))) :=
    fun W DA dn dc a c => rdbuild_any (rwQ p t) (rwQ_ok hp ht) A1 n1 c1 A2 n2 c2 (udW p t) (udW_ok p ht) DA dn dc W a c
  obtain ⟨s, hs⟩ : ∃ s, udD p = s := ⟨_, rfl⟩
  obtain ⟨F, hF⟩ : ∃ s, udE p = s := ⟨_, rfl⟩
  rw [hs, hF] at ct
  rw [hs] at cb
  clear hs hF hp ht
  obtain ⟨Q, hQ⟩ : ∃ x, dbP (rwQ p t) (udW p t) = x := ⟨_, rfl⟩
  obtain ⟨E, hE⟩ : ∃ x, dbE (rwQ p t) (udW p t) = x := ⟨_, rfl⟩
  rw [hQ, hE] at cb
  rw [hQ, hE]
  clear hQ hE
  have hn6 : (p.proto == 6) = false := by rw [hpr]; rfl
  have y17 : (p.proto == 17) = true := by rw [hpr]; rfl
  clear hpr
  obtain ⟨k, hk, w1, hw1, P1, U1, Z1, R1⟩ := nwI3 w #[.int .u8 (p).tos, .int .u16 (p).id, .bool (p).keep, .int .u8 (p).ttl, .int .u8 (p).proto, .int .u32 (p).src, .int .u32 (p).dst, .slice A1 n1 c1, .slice A2 n2 c2] 26 #[.int .u8 (t).proto, .int .u32 (t).src, .int .u32 (t).dst, .int .u16 (t).sp, .int .u16 (t).dp] 29 #[.int .u8 0, .int .u16 0, .bool false, .int .u8 0, .int .u8 0, .int .u32 0, .int .u32 0, .slice none 0 0, .slice none 0 0] 26
  have Pc1 := P1.cell
  have Uc1 := U1.cell
  have Zc1 := Z1.cell
  have Pl1 := P1.lt
  have Ul1 := U1.lt
  have Zl1 := Z1.lt
  have x1 := (k1).below R1
  have y1 := (k2).below R1
  go_enter Tryz.func14, Tryz.ntmps14
  go_wp2_with (go_at_call 9; ((with_reducible refine (ho w1 y1).mono ?_); rintro e u2 ⟨⟨rfl, hB2⟩⟩); (obtain ⟨w2, hw2, V2, kG2, hkG2, G2⟩ := nw1 u2 #[.int .u8 (T).proto, .int .u32 (T).src, .int .u32 (T).dst, .int .u16 (T).sp, .int .u16 (T).dp] 29); have Gc2 := G2.cell; have T2 := below_then hB2 V2; have P2 := P1.below T2; have Pc2 := P2.cell; clear Pc1; have U2 := U1.below T2; have Uc2 := U2.cell; clear Uc1; have Z2 := Z1.below T2; have Zc2 := Z2.cell; clear Zc1; have x2 := x1.below T2; have y2 := y1.below T2; have R2 := below_then R1 T2; (obtain ⟨w3, hw3, V3, kX3, hkX3, X3⟩ := nw1 w2 #[.int .u8 (p).tos, .int .u16 (p).id, .bool (p).keep, .int .u8 (p).ttl, .int .u8 (p).proto, .int .u32 (p).src, .int .u32 (p).dst, .slice A1 n1 c1, .slice A2 n2 c2] 26); have Xc3 := X3.cell; have P3 := P2.below V3; have Pc3 := P3.cell; have U3 := U2.below V3; have Uc3 := U3.cell; have Z3 := Z2.below V3; have Zc3 := Z3.cell; have G3 := G2.below V3; have Gc3 := G3.cell; have x3 := x2.below V3; have y3 := y2.below V3; have R3 := below_then R2 V3)
  have gk := Z2.lt
  have Xs := X3.set_ 5 (.int .u32 t.src)
  simp only [List.setIfInBounds_toArray, List.set_cons_zero, List.set_cons_succ] at Xs
  have Xsc := Xs.cell
  have Usc := (U3.far ⟨kX3, 5, none⟩ (by show kX3 ≠ _; omega) (.int .u32 t.src)).cell
  obtain ⟨w4, hw4, S4⟩ : ∃ wf, ((w3.setCell ⟨kX3, 5, none⟩ (.int .u32 t.src)).setCell ⟨kX3, 6, none⟩ (.int .u32 t.dst)).drew = wf ∧ Sto w3 kX3 wf #[.int .u8 p.tos, .int .u16 p.id, .bool p.keep, .int .u8 p.ttl, .int .u8 p.proto, .int .u32 t.src, .int .u32 t.dst, .slice A1 n1 c1, .slice A2 n2 c2] 26 := ⟨_, rfl, by
    have := (((Sto.nil X3).set 5 (.int .u32 t.src)).set 6 (.int .u32 t.dst)).drew
    simp only [List.setIfInBounds_toArray, List.set_cons_zero, List.set_cons_succ] at this
    exact this⟩
  go_region
  clear Xsc Usc Xs
  have R4 : Below w.heap.size w w4 := S4.bel R3 (by have := R2.size; omega)
  have P4 := S4.other (by omega) P3
  have Pc4 := P4.cell
  have U4 := S4.other (by omega) U3
  have Uc4 := U4.cell
  have Z4 := S4.other (by omega) Z3
  have Zc4 := Z4.cell
  have X4 := S4.blk
  have Xc4 := X4.cell
  have x4 := k1.below R4
  have y4 := k2.below R4
  clear Pc3 Uc3 Zc3 Xc3 Gc3
  have gP := P4.lt
  have gU := U4.lt
  have gZ := Z4.lt
  have gX := X4.lt
  go_wp2_with (go_at_call 33; ((with_reducible refine (ct w4 y4).mono ?_); rintro e u5 ⟨⟨DA, dn, dc, rfl, od, hB5⟩⟩); (obtain ⟨w5, hw5, V5, kS5, hkS5, S5⟩ := nw1 u5 #[.int .u16 (s).src, .int .u16 (s).dst, .bool (s).bare, .slice DA dn dc] 57); have Sc5 := S5.cell; have T5 := below_then hB5 V5; have P5 := P4.below T5; have Pc5 := P5.cell; clear Pc4; have U5 := U4.below T5; have Uc5 := U5.cell; clear Uc4; have Z5 := Z4.below T5; have Zc5 := Z5.cell; clear Zc4; have X5 := X4.below T5; have Xc5 := X5.cell; clear Xc4; have x5 := x4.below T5; have y5 := y4.below T5; have R5 := below_then R4 T5)
  have gS : w4.heap.size ≤ kS5 := by rw [← hkS5]; exact hB5.size
  have Xs := S5.set_ 0 (.int .u16 t.sp)
  simp only [List.setIfInBounds_toArray, List.set_cons_zero, List.set_cons_succ] at Xs
  have Xsc := Xs.cell
  have Usc := (U5.far ⟨kS5, 0, none⟩ (by show kS5 ≠ _; omega) (.int .u16 t.sp)).cell
  obtain ⟨w6, hw6, S6⟩ : ∃ wf, ((w5.setCell ⟨kS5, 0, none⟩ (.int .u16 t.sp)).setCell ⟨kS5, 1, none⟩ (.int .u16 t.dp)).drew = wf ∧ Sto w5 kS5 wf #[.int .u16 t.sp, .int .u16 t.dp, .bool s.bare, .slice DA dn dc] 57 := ⟨_, rfl, by
    have := (((Sto.nil S5).set 0 (.int .u16 t.sp)).set 1 (.int .u16 t.dp)).drew
    simp only [List.setIfInBounds_toArray, List.set_cons_zero, List.set_cons_succ] at this
    exact this⟩
  go_region
  clear Xsc Usc Xs
  have B6 : Below u5.heap.size u5 w6 := S6.bel V5 (by omega)
  have B46 : Below w4.heap.size w4 w6 := S6.bel T5 (by omega)
  have od6 := od.bs.below B6
  have Sc6 := S6.blk.cell
  have X6 := X4.below B46
  have Xc6 := X6.cell
  have Z6 := Z4.below B46
  have Zc6 := Z6.cell
  have x6 := x4.below B46
  have R6 := below_then R4 B46
  clear Pc5 Uc5 Zc5 Sc5 Xc5
  go_wp2_with (go_at_call 30; ((with_reducible refine (cb w6 DA dn dc x6 od6).mono ?_); rintro e w7 ⟨⟨E1, e1, f1, E2, e2, f2, rfl, o1, o2, hB7⟩⟩); have Z7 := Z6.below hB7; have Zc7 := Z7.cell; have R7 := below_then R6 hB7)
  have sz := R6.size
  have zl := Z6.lt
  obtain ⟨wf, hwf, Sf⟩ := store9 Z7 (.int .u8 Q.tos) (.int .u16 Q.id) (.bool Q.keep) (.int .u8 Q.ttl) (.int .u8 Q.proto) (.int .u32 Q.src) (.int .u32 Q.dst) (.slice E1 e1 f1) (.slice E2 e2 f2)
  rw [hwf]
  have pf := Sf.blk.cell
  exact bodyPost_ret (v := .tuple #[(.agg #[.int .u8 (Q).tos, .int .u16 (Q).id, .bool (Q).keep, .int .u8 (Q).ttl, .int .u8 (Q).proto, .int .u32 (Q).src, .int .u32 (Q).dst, .slice E1 e1 f1, .slice E2 e2 f2]), .int .i64 E]) (by simp [results, Tryz.results14, go_sem, pf]) rfl ⟨⟨E1, e1, f1, E2, e2, f2, rfl, (Sf.own o1 (fun a h => by have := o1.ge a h; omega)).mono (by omega), (Sf.own o2 (fun a h => by have := o2.ge a h; omega)).mono (by omega), Sf.bel R7 (by omega)⟩⟩
theorem rrw_icmp (p : Pkt) (t : Tup) (A1 : Option Addr) (n1 c1 : Nat) (A2 : Option Addr) (n2 c2 : Nat) (w : World) (k1 : Bs w A1 n1 c1 p.opt) (k2 : Bs w A2 n2 c2 p.dat) (hp : p.Ok) (ht : t.Ok) (h7 : n2 ≤ 17592186044400) (hne : (t.proto != p.proto) = false) (hpr : p.proto = 1) (T : Tup) (ho : ∀ W, Bs W A2 n2 c2 p.dat → Calls Tryz.prog 9 #[(.agg #[.int .u8 (p).tos, .int .u16 (p).id, .bool (p).keep, .int .u8 (p).ttl, .int .u8 (p).proto, .int .u32 (p).src, .int .u32 (p).dst, .slice A1 n1 c1, .slice A2 n2 c2])] W (TtPost W T 0)) : Calls Tryz.prog 14 #[(.agg #[.int .u8 (p).tos, .int .u16 (p).id, .bool (p).keep, .int .u8 (p).ttl, .int .u8 (p).proto, .int .u32 (p).src, .int .u32 (p).dst, .slice A1 n1 c1, .slice A2 n2 c2]), (.agg #[.int .u8 (t).proto, .int .u32 (t).src, .int .u32 (t).dst, .int .u16 (t).sp, .int .u16 (t).dp])] w (WiPost w (withP (rwQ p t) 1 (mS (icW p t))) (wiE (rwQ p t) (8 + (icW p t).dat.length))) := by
  have ct := fun W (h : Bs W A2 n2 c2 p.dat) => ricmp_any p A1 n1 c1 A2 n2 c2 W h (by omega)
  have cb : ∀ W DA dn dc, Bs W A1 n1 c1 p.opt → Bs W DA dn dc (icM p).dat → Calls Tryz.prog 11 #[.agg #[.int .u8 p.tos, .int .u16 p.id, .bool p.keep, .int .u8 p.ttl, .int .u8 p.proto, .int .u32 t.src, .int .u32 t.dst, .slice A1 n1 c1, .slice A2 n2 c2], .agg #[.int .u8 (icM p).ty, .int .u8 (icM p).code, .int .u32 (t.sp * 65536 + (icM p).rest % 65536), .slice DA dn dc]] W (WiPost W (withP (rwQ p t) 1 (mS (icW p t))) (wiE (rwQ p t) (8 + (icW p t).dat.length))) :=
    fun W DA dn dc a c => rbicmp_any (rwQ p t) A1 n1 c1 A2 n2 c2 (icW p t) (icW_ok p ht) DA dn dc W a c
  obtain ⟨r0, r1⟩ := (icM_ok p).rest
  obtain ⟨p0, p1⟩ := ht.sp
  obtain ⟨s, hs⟩ : ∃ s, icM p = s := ⟨_, rfl⟩
  obtain ⟨F, hF⟩ : ∃ s, icE p = s := ⟨_, rfl⟩
  rw [hs] at r0 r1
  rw [hs, hF] at ct
  rw [hs] at cb
  obtain ⟨v, hv⟩ : ∃ v, t.sp * 65536 + s.rest % 65536 = v := ⟨_, rfl⟩
  rw [hv] at cb
  have hv3 : bits .or .u32 (t.sp * 65536) (s.rest % 65536) = v := by rw [or_u32 p0 p1 (by omega) (by omega), hv]
  have hv4 : s.rest.tmod 65536 = s.rest % 65536 := Int.tmod_eq_emod_of_nonneg r0
  clear hs hF hp ht hv
  obtain ⟨Q, hQ⟩ : ∃ x, withP (rwQ p t) 1 (mS (icW p t)) = x := ⟨_, rfl⟩
  obtain ⟨E, hE⟩ : ∃ x, wiE (rwQ p t) (8 + (icW p t).dat.length) = x := ⟨_, rfl⟩
  rw [hQ, hE] at cb
  rw [hQ, hE]
  clear hQ hE
  have hn6 : (p.proto == 6) = false := by rw [hpr]; rfl
  have hn17 : (p.proto == 17) = false := by rw [hpr]; rfl
  have y1 : (p.proto == 1) = true := by rw [hpr]; rfl
  clear hpr
  obtain ⟨k, hk, w1, hw1, P1, U1, Z1, R1⟩ := nwI3 w #[.int .u8 (p).tos, .int .u16 (p).id, .bool (p).keep, .int .u8 (p).ttl, .int .u8 (p).proto, .int .u32 (p).src, .int .u32 (p).dst, .slice A1 n1 c1, .slice A2 n2 c2] 26 #[.int .u8 (t).proto, .int .u32 (t).src, .int .u32 (t).dst, .int .u16 (t).sp, .int .u16 (t).dp] 29 #[.int .u8 0, .int .u16 0, .bool false, .int .u8 0, .int .u8 0, .int .u32 0, .int .u32 0, .slice none 0 0, .slice none 0 0] 26
  have Pc1 := P1.cell
  have Uc1 := U1.cell
  have Zc1 := Z1.cell
  have Pl1 := P1.lt
  have Ul1 := U1.lt
  have Zl1 := Z1.lt
  have x1 := (k1).below R1
  have y1 := (k2).below R1
  go_enter Tryz.func14, Tryz.ntmps14
  go_wp2_with (go_at_call 9; ((with_reducible refine (ho w1 y1).mono ?_); rintro e u2 ⟨⟨rfl, hB2⟩⟩); (obtain ⟨w2, hw2, V2, kG2, hkG2, G2⟩ := nw1 u2 #[.int .u8 (T).proto, .int .u32 (T).src, .int .u32 (T).dst, .int .u16 (T).sp, .int .u16 (T).dp] 29); have Gc2 := G2.cell; have T2 := below_then hB2 V2; have P2 := P1.below T2; have Pc2 := P2.cell; clear Pc1; have U2 := U1.below T2; have Uc2 := U2.cell; clear Uc1; have Z2 := Z1.below T2; have Zc2 := Z2.cell; clear Zc1; have x2 := x1.below T2; have y2 := y1.below T2; have R2 := below_then R1 T2; (obtain ⟨w3, hw3, V3, kX3, hkX3, X3⟩ := nw1 w2 #[.int .u8 (p).tos, .int .u16 (p).id, .bool (p).keep, .int .u8 (p).ttl, .int .u8 (p).proto, .int .u32 (p).src, .int .u32 (p).dst, .slice A1 n1 c1, .slice A2 n2 c2] 26); have Xc3 := X3.cell; have P3 := P2.below V3; have Pc3 := P3.cell; have U3 := U2.below V3; have Uc3 := U3.cell; have Z3 := Z2.below V3; have Zc3 := Z3.cell; have G3 := G2.below V3; have Gc3 := G3.cell; have x3 := x2.below V3; have y3 := y2.below V3; have R3 := below_then R2 V3)
  have gk := Z2.lt
  have Xs := X3.set_ 5 (.int .u32 t.src)
  simp only [List.setIfInBounds_toArray, List.set_cons_zero, List.set_cons_succ] at Xs
  have Xsc := Xs.cell
  have Usc := (U3.far ⟨kX3, 5, none⟩ (by show kX3 ≠ _; omega) (.int .u32 t.src)).cell
  obtain ⟨w4, hw4, S4⟩ : ∃ wf, ((w3.setCell ⟨kX3, 5, none⟩ (.int .u32 t.src)).setCell ⟨kX3, 6, none⟩ (.int .u32 t.dst)).drew = wf ∧ Sto w3 kX3 wf #[.int .u8 p.tos, .int .u16 p.id, .bool p.keep, .int .u8 p.ttl, .int .u8 p.proto, .int .u32 t.src, .int .u32 t.dst, .slice A1 n1 c1, .slice A2 n2 c2] 26 := ⟨_, rfl, by
    have := (((Sto.nil X3).set 5 (.int .u32 t.src)).set 6 (.int .u32 t.dst)).drew
    simp only [List.setIfInBounds_toArray, List.set_cons_zero, List.set_cons_succ] at this
    exact this⟩
  go_region
  clear Xsc Usc Xs
  have R4 : Below w.heap.size w w4 := S4.bel R3 (by have := R2.size; omega)
  have P4 := S4.other (by omega) P3
  have Pc4 := P4.cell
  have U4 := S4.other (by omega) U3
  have Uc4 := U4.cell
  have Z4 := S4.other (by omega) Z3
  have Zc4 := Z4.cell
  have X4 := S4.blk
  have Xc4 := X4.cell
  have x4 := k1.below R4
  have y4 := k2.below R4
  clear Pc3 Uc3 Zc3 Xc3 Gc3
  have gP := P4.lt
  have gU := U4.lt
  have gZ := Z4.lt
  have gX := X4.lt
  go_wp2_with (first
    | (go_at_call 12; ((with_reducible refine (ct w4 y4).mono ?_); rintro e u5 ⟨⟨DA, dn, dc, rfl, od, hB5⟩⟩); (obtain ⟨w5, hw5, V5, kS5, hkS5, S5⟩ := nw1 u5 #[.int .u8 (s).ty, .int .u8 (s).code, .int .u32 (s).rest, .slice DA dn dc] 42); have Sc5 := S5.cell; have T5 := below_then hB5 V5; have P5 := P4.below T5; have Pc5 := P5.cell; clear Pc4; have U5 := U4.below T5; have Uc5 := U5.cell; clear Uc4; have Z5 := Z4.below T5; have Zc5 := Z5.cell; clear Zc4; have X5 := X4.below T5; have Xc5 := X5.cell; clear Xc4; have x5 := x4.below T5; have y5 := y4.below T5; have R5 := below_then R4 T5; have gS : w4.heap.size ≤ kS5 := (by rw [← hkS5]; exact hB5.size); (obtain ⟨w6, hw6, S6⟩ : ∃ wf, (w5.setCell ⟨kS5, 2, none⟩ (.int .u32 v)) = wf ∧ Sto w5 kS5 wf #[.int .u8 s.ty, .int .u8 s.code, .int .u32 v, .slice DA dn dc] 42 := ⟨_, rfl, by have h := (Sto.nil S5).set 2 (.int .u32 v); simp only [List.setIfInBounds_toArray, List.set_cons_zero, List.set_cons_succ] at h; exact h⟩); have B6 : Below u5.heap.size u5 w6 := S6.bel V5 (by omega); have B46 : Below w4.heap.size w4 w6 := S6.bel T5 (by omega); have Sc6 := S6.blk.cell; have X6 := X4.below B46; have Xc6 := X6.cell; have Z6 := Z4.below B46; have Zc6 := Z6.cell; have x6 := x4.below B46; have R6 := below_then R4 B46; have od6 := od.bs.below B6)
    | (go_at_call 11; ((with_reducible refine (cb w6 DA dn dc x6 od6).mono ?_); rintro e w7 ⟨⟨E1, e1, f1, E2, e2, f2, rfl, o1, o2, hB7⟩⟩); have Z7 := Z6.below hB7; have Zc7 := Z7.cell; have R7 := below_then R6 hB7))
  have sz := R6.size
  have zl := Z6.lt
  obtain ⟨wf, hwf, Sf⟩ := store9 Z7 (.int .u8 Q.tos) (.int .u16 Q.id) (.bool Q.keep) (.int .u8 Q.ttl) (.int .u8 Q.proto) (.int .u32 Q.src) (.int .u32 Q.dst) (.slice E1 e1 f1) (.slice E2 e2 f2)
  rw [hwf]
  have pf := Sf.blk.cell
  exact bodyPost_ret (v := .tuple #[(.agg #[.int .u8 (Q).tos, .int .u16 (Q).id, .bool (Q).keep, .int .u8 (Q).ttl, .int .u8 (Q).proto, .int .u32 (Q).src, .int .u32 (Q).dst, .slice E1 e1 f1, .slice E2 e2 f2]), .int .i64 E]) (by simp [results, Tryz.results14, go_sem, pf]) rfl ⟨⟨E1, e1, f1, E2, e2, f2, rfl, (Sf.own o1 (fun a h => by have := o1.ge a h; omega)).mono (by omega), (Sf.own o2 (fun a h => by have := o2.ge a h; omega)).mono (by omega), Sf.bel R7 (by omega)⟩⟩
theorem rrw_gre (p : Pkt) (t : Tup) (A1 : Option Addr) (n1 c1 : Nat) (A2 : Option Addr) (n2 c2 : Nat) (w : World) (k1 : Bs w A1 n1 c1 p.opt) (k2 : Bs w A2 n2 c2 p.dat) (hp : p.Ok) (ht : t.Ok) (h7 : n2 ≤ 17592186044400) (hne : (t.proto != p.proto) = false) (hpr : p.proto = 47) (hz : bgE (rwQ p t) (geW p t) = 0) (T : Tup) (ho : ∀ W, Bs W A2 n2 c2 p.dat → Calls Tryz.prog 9 #[(.agg #[.int .u8 (p).tos, .int .u16 (p).id, .bool (p).keep, .int .u8 (p).ttl, .int .u8 (p).proto, .int .u32 (p).src, .int .u32 (p).dst, .slice A1 n1 c1, .slice A2 n2 c2])] W (TtPost W T 0)) : Calls Tryz.prog 14 #[(.agg #[.int .u8 (p).tos, .int .u16 (p).id, .bool (p).keep, .int .u8 (p).ttl, .int .u8 (p).proto, .int .u32 (p).src, .int .u32 (p).dst, .slice A1 n1 c1, .slice A2 n2 c2]), (.agg #[.int .u8 (t).proto, .int .u32 (t).src, .int .u32 (t).dst, .int .u16 (t).sp, .int .u16 (t).dp])] w (WiPost w (bgP (rwQ p t) (geW p t)) (bgE (rwQ p t) (geW p t))) := by
  have ct := fun W (h : Bs W A2 n2 c2 p.dat) => rgre_any p A1 n1 c1 A2 n2 c2 W h
  have cb : ∀ W DA dn dc, Bs W A1 n1 c1 p.opt → Bs W DA dn dc (geF p).dat → Calls Tryz.prog 43 #[.agg #[.int .u8 p.tos, .int .u16 p.id, .bool p.keep, .int .u8 p.ttl, .int .u8 p.proto, .int .u32 t.src, .int .u32 t.dst, .slice A1 n1 c1, .slice A2 n2 c2], .agg #[.int .u16 t.dp, .bool (geF p).hs, .bool (geF p).ha, .int .u32 (geF p).seq, .int .u32 (geF p).ack, .slice DA dn dc]] W (WiPost W (bgP (rwQ p t) (geW p t)) (bgE (rwQ p t) (geW p t))) :=
    fun W DA dn dc a c => rbg_good (rwQ p t) A1 n1 c1 A2 n2 c2 (geW p t) (geW_ok p ht) DA dn dc W a c hz
  obtain ⟨s, hs⟩ : ∃ s, geF p = s := ⟨_, rfl⟩
  obtain ⟨F, hF⟩ : ∃ s, geE p = s := ⟨_, rfl⟩
  rw [hs, hF] at ct
  rw [hs] at cb
  clear hs hF hp ht hz
  obtain ⟨Q, hQ⟩ : ∃ x, bgP (rwQ p t) (geW p t) = x := ⟨_, rfl⟩
  obtain ⟨E, hE⟩ : ∃ x, bgE (rwQ p t) (geW p t) = x := ⟨_, rfl⟩
  rw [hQ, hE] at cb
  rw [hQ, hE]
  clear hQ hE
  have hn6 : (p.proto == 6) = false := by rw [hpr]; rfl
  have hn17 : (p.proto == 17) = false := by rw [hpr]; rfl
  have hn1 : (p.proto == 1) = false := by rw [hpr]; rfl
  clear hpr
  obtain ⟨k, hk, w1, hw1, P1, U1, Z1, R1⟩ := nwI3 w #[.int .u8 (p).tos, .int .u16 (p).id, .bool (p).keep, .int .u8 (p).ttl, .int .u8 (p).proto, .int .u32 (p).src, .int .u32 (p).dst, .slice A1 n1 c1, .slice A2 n2 c2] 26 #[.int .u8 (t).proto, .int .u32 (t).src, .int .u32 (t).dst, .int .u16 (t).sp, .int .u16 (t).dp] 29 #[.int .u8 0, .int .u16 0, .bool false, .int .u8 0, .int .u8 0, .int .u32 0, .int .u32 0, .slice none 0 0, .slice none 0 0] 26
  have Pc1 := P1.cell
  have Uc1 := U1.cell
  have Zc1 := Z1.cell
  have Pl1 := P1.lt
  have Ul1 := U1.lt
  have Zl1 := Z1.lt
  have x1 := (k1).below R1
  have y1 := (k2).below R1
  go_enter Tryz.func14, Tryz.ntmps14
  go_wp2_with (go_at_call 9; ((with_reducible refine (ho w1 y1).mono ?_); rintro e u2 ⟨⟨rfl, hB2⟩⟩); (obtain ⟨w2, hw2, V2, kG2, hkG2, G2⟩ := nw1 u2 #[.int .u8 (T).proto, .int .u32 (T).src, .int .u32 (T).dst, .int .u16 (T).sp, .int .u16 (T).dp] 29); have Gc2 := G2.cell; have T2 := below_then hB2 V2; have P2 := P1.below T2; have Pc2 := P2.cell; clear Pc1; have U2 := U1.below T2; have Uc2 := U2.cell; clear Uc1; have Z2 := Z1.below T2; have Zc2 := Z2.cell; clear Zc1; have x2 := x1.below T2; have y2 := y1.below T2; have R2 := below_then R1 T2; (obtain ⟨w3, hw3, V3, kX3, hkX3, X3⟩ := nw1 w2 #[.int .u8 (p).tos, .int .u16 (p).id, .bool (p).keep, .int .u8 (p).ttl, .int .u8 (p).proto, .int .u32 (p).src, .int .u32 (p).dst, .slice A1 n1 c1, .slice A2 n2 c2] 26); have Xc3 := X3.cell; have P3 := P2.below V3; have Pc3 := P3.cell; have U3 := U2.below V3; have Uc3 := U3.cell; have Z3 := Z2.below V3; have Zc3 := Z3.cell; have G3 := G2.below V3; have Gc3 := G3.cell; have x3 := x2.below V3; have y3 := y2.below V3; have R3 := below_then R2 V3)
  have gk := Z2.lt
  have Xs := X3.set_ 5 (.int .u32 t.src)
  simp only [List.setIfInBounds_toArray, List.set_cons_zero, List.set_cons_succ] at Xs
  have Xsc := Xs.cell
  have Usc := (U3.far ⟨kX3, 5, none⟩ (by show kX3 ≠ _; omega) (.int .u32 t.src)).cell
  obtain ⟨w4, hw4, S4⟩ : ∃ wf, ((w3.setCell ⟨kX3, 5, none⟩ (.int .u32 t.src)).setCell ⟨kX3, 6, none⟩ (.int .u32 t.dst)).drew = wf ∧ Sto w3 kX3 wf #[.int .u8 p.tos, .int .u16 p.id, .bool p.keep, .int .u8 p.ttl, .int .u8 p.proto, .int .u32 t.src, .int .u32 t.dst, .slice A1 n1 c1, .slice A2 n2 c2] 26 := ⟨_, rfl, by
    have := (((Sto.nil X3).set 5 (.int .u32 t.src)).set 6 (.int .u32 t.dst)).drew
    simp only [List.setIfInBounds_toArray, List.set_cons_zero, List.set_cons_succ] at this
    exact this⟩
  go_region
  clear Xsc Usc Xs
  have R4 : Below w.heap.size w w4 := S4.bel R3 (by have := R2.size; omega)
  have P4 := S4.other (by omega) P3
  have Pc4 := P4.cell
  have U4 := S4.other (by omega) U3
  have Uc4 := U4.cell
  have Z4 := S4.other (by omega) Z3
  have Zc4 := Z4.cell
  have X4 := S4.blk
  have Xc4 := X4.cell
  have x4 := k1.below R4
  have y4 := k2.below R4
  clear Pc3 Uc3 Zc3 Xc3 Gc3
  have gP := P4.lt
  have gU := U4.lt
  have gZ := Z4.lt
  have gX := X4.lt
  go_wp2_with (first
    | (go_at_call 35; ((with_reducible refine (ct w4 y4).mono ?_); rintro e u5 ⟨⟨DA, dn, dc, rfl, od, hB5⟩⟩); (obtain ⟨w5, hw5, V5, kS5, hkS5, S5⟩ := nw1 u5 #[.int .u16 (s).call, .bool (s).hs, .bool (s).ha, .int .u32 (s).seq, .int .u32 (s).ack, .slice DA dn dc] 68); have Sc5 := S5.cell; have T5 := below_then hB5 V5; have P5 := P4.below T5; have Pc5 := P5.cell; clear Pc4; have U5 := U4.below T5; have Uc5 := U5.cell; clear Uc4; have Z5 := Z4.below T5; have Zc5 := Z5.cell; clear Zc4; have X5 := X4.below T5; have Xc5 := X5.cell; clear Xc4; have x5 := x4.below T5; have y5 := y4.below T5; have R5 := below_then R4 T5; have gS : w4.heap.size ≤ kS5 := (by rw [← hkS5]; exact hB5.size); (obtain ⟨w6, hw6, S6⟩ : ∃ wf, (w5.setCell ⟨kS5, 0, none⟩ (.int .u16 t.dp)) = wf ∧ Sto w5 kS5 wf #[.int .u16 t.dp, .bool s.hs, .bool s.ha, .int .u32 s.seq, .int .u32 s.ack, .slice DA dn dc] 68 := ⟨_, rfl, by have h := (Sto.nil S5).set 0 (.int .u16 t.dp); simp only [List.setIfInBounds_toArray, List.set_cons_zero, List.set_cons_succ] at h; exact h⟩); have B6 : Below u5.heap.size u5 w6 := S6.bel V5 (by omega); have B46 : Below w4.heap.size w4 w6 := S6.bel T5 (by omega); have Sc6 := S6.blk.cell; have X6 := X4.below B46; have Xc6 := X6.cell; have Z6 := Z4.below B46; have Zc6 := Z6.cell; have x6 := x4.below B46; have R6 := below_then R4 B46; have od6 := od.bs.below B6)
    | (go_at_call 43; ((with_reducible refine (cb w6 DA dn dc x6 od6).mono ?_); rintro e w7 ⟨⟨E1, e1, f1, E2, e2, f2, rfl, o1, o2, hB7⟩⟩); have Z7 := Z6.below hB7; have Zc7 := Z7.cell; have R7 := below_then R6 hB7))
  have sz := R6.size
  have zl := Z6.lt
  obtain ⟨wf, hwf, Sf⟩ := store9 Z7 (.int .u8 Q.tos) (.int .u16 Q.id) (.bool Q.keep) (.int .u8 Q.ttl) (.int .u8 Q.proto) (.int .u32 Q.src) (.int .u32 Q.dst) (.slice E1 e1 f1) (.slice E2 e2 f2)
  rw [hwf]
  have pf := Sf.blk.cell
  exact bodyPost_ret (v := .tuple #[(.agg #[.int .u8 (Q).tos, .int .u16 (Q).id, .bool (Q).keep, .int .u8 (Q).ttl, .int .u8 (Q).proto, .int .u32 (Q).src, .int .u32 (Q).dst, .slice E1 e1 f1, .slice E2 e2 f2]), .int .i64 E]) (by simp [results, Tryz.results14, go_sem, pf]) rfl ⟨⟨E1, e1, f1, E2, e2, f2, rfl, (Sf.own o1 (fun a h => by have := o1.ge a h; omega)).mono (by omega), (Sf.own o2 (fun a h => by have := o2.ge a h; omega)).mono (by omega), Sf.bel R7 (by omega)⟩⟩
theorem rrewrite_good (p : Pkt) (hp : p.Ok) (t : Tup) (ht : t.Ok) (A1 : Option Addr) (n1 c1 : Nat) (A2 : Option Addr) (n2 c2 : Nat) (w : World) (k1 : Bs w A1 n1 c1 p.opt) (k2 : Bs w A2 n2 c2 p.dat) (h7 : n2 ≤ 17592186044400) (hz : rwE p t = 0) :
    Calls Tryz.prog 14 #[(.agg #[.int .u8 (p).tos, .int .u16 (p).id, .bool (p).keep, .int .u8 (p).ttl, .int .u8 (p).proto, .int .u32 (p).src, .int .u32 (p).dst, .slice A1 n1 c1, .slice A2 n2 c2]), (.agg #[.int .u8 (t).proto, .int .u32 (t).src, .int .u32 (t).dst, .int .u16 (t).sp, .int .u16 (t).dp])] w (WiPost w (rwP p t) (rwE p t)) := by
  have ho := fun W k => rof_any p hp A1 n1 c1 A2 n2 c2 W k h7
  unfold rwE at hz
  unfold rwP rwE
  by_cases h1 : p.proto = t.proto
  case neg =>
    rw [if_pos h1] at hz
    exact absurd hz (by decide)
  have hne : (t.proto != p.proto) = false := by simp [h1]
  have n1' : ¬ (p.proto ≠ t.proto) := by simpa using h1
  rw [if_neg n1'] at hz
  rw [if_neg n1', if_neg n1']
  by_cases h2 : ofE p = 0
  case neg =>
    rw [if_pos h2] at hz
    exact absurd hz h2
  have n2' : ¬ (ofE p ≠ 0) := by simpa using h2
  rw [if_neg n2'] at hz
  rw [if_neg n2', if_neg n2']
  rw [h2] at ho
  by_cases h6 : p.proto = 6
  · rw [if_pos h6, if_pos h6]
    exact rrw_tcp p t A1 n1 c1 A2 n2 c2 w k1 k2 hp ht h7 hne h6 _ ho
  rw [if_neg h6] at hz
  rw [if_neg h6, if_neg h6]
  by_cases h17 : p.proto = 17
  · rw [if_pos h17, if_pos h17]
    exact rrw_udp p t A1 n1 c1 A2 n2 c2 w k1 k2 hp ht h7 hne h17 _ ho
  rw [if_neg h17] at hz
  rw [if_neg h17, if_neg h17]
  by_cases h1' : p.proto = 1
  · rw [if_pos h1', if_pos h1']
    exact rrw_icmp p t A1 n1 c1 A2 n2 c2 w k1 k2 hp ht h7 hne h1' _ ho
  rw [if_neg h1'] at hz
  rw [if_neg h1', if_neg h1']
  have h47 : p.proto = 47 := by
    unfold ofE at h2
    rw [if_neg h6, if_neg h17, if_neg h1'] at h2
    by_cases h : p.proto = 47
    · exact h
    · rw [if_neg h] at h2; cases h2
  exact rrw_gre p t A1 n1 c1 A2 n2 c2 w k1 k2 hp ht h7 hne h47 hz _ ho
theorem alike_tcp (p q : Pkt) (A1 : Option Addr) (n1 c1 : Nat) (A2 : Option Addr) (n2 c2 : Nat) (B1 : Option Addr) (m1 d1 : Nat) (B2 : Option Addr) (m2 d2 : Nat) (w : World) (k2 : Bs w A2 n2 c2 p.dat) (j2 : Bs w B2 m2 d2 q.dat) (e1 : (p.src != q.src) = false) (e2 : (p.dst != q.dst) = false) (e3 : (p.proto != q.proto) = false) (hpr : p.proto = 6) (s : Seg) (hso : ∀ o ∈ s.opts, o.Ok)
    (ct : ∀ W, Bs W A2 n2 c2 p.dat → Calls Tryz.prog 32 #[(.agg #[.int .u8 (p).tos, .int .u16 (p).id, .bool (p).keep, .int .u8 (p).ttl, .int .u8 (p).proto, .int .u32 (p).src, .int .u32 (p).dst, .slice A1 n1 c1, .slice A2 n2 c2])] W (TcPost W s 0)) (cq : ∀ W, Bs W B2 m2 d2 q.dat → Calls Tryz.prog 32 #[(.agg #[.int .u8 (q).tos, .int .u16 (q).id, .bool (q).keep, .int .u8 (q).ttl, .int .u8 (q).proto, .int .u32 (q).src, .int .u32 (q).dst, .slice B1 m1 d1, .slice B2 m2 d2])] W (TcPost W s 0)) :
    Calls Tryz.prog 15 #[(.agg #[.int .u8 (p).tos, .int .u16 (p).id, .bool (p).keep, .int .u8 (p).ttl, .int .u8 (p).proto, .int .u32 (p).src, .int .u32 (p).dst, .slice A1 n1 c1, .slice A2 n2 c2]), (.agg #[.int .u8 (q).tos, .int .u16 (q).id, .bool (q).keep, .int .u8 (q).ttl, .int .u8 (q).proto, .int .u32 (q).src, .int .u32 (q).dst, .slice B1 m1 d1, .slice B2 m2 d2])] w fun e w' => e = .returned (.bool true) ∧ Below w.heap.size w w' := by
  have y6 : (p.proto == 6) = true := by rw [hpr]; rfl
  clear hpr
  have cs : ∀ OA on oc DA dn dc OB bn bc EB en ec W, Os W OA on oc s.opts → Bs W DA dn dc s.dat → Os W OB bn bc s.opts → Bs W EB en ec s.dat → Calls Tryz.prog 44 #[(.agg #[.int .u16 (s).src, .int .u16 (s).dst, .int .u32 (s).seq, .int .u32 (s).ack, .int .u8 (s).flags, .int .u16 (s).win, .int .u16 (s).urg, .slice OA on oc, .slice DA dn dc]), (.agg #[.int .u16 (s).src, .int .u16 (s).dst, .int .u32 (s).seq, .int .u32 (s).ack, .int .u8 (s).flags, .int .u16 (s).win, .int .u16 (s).urg, .slice OB bn bc, .slice EB en ec])] W fun e w' => e = .returned (.bool true) ∧ Below W.heap.size W w' := fun OA on oc DA dn dc OB bn bc EB en ec W a b c d => by
    have := rtsame_any s s OA on oc DA dn dc OB bn bc EB en ec W a b c d
    rw [sameS_self] at this
    exact this
  obtain ⟨k, hk, w1, hw1, P1, O1, R1⟩ := nwI2 w #[.int .u8 (p).tos, .int .u16 (p).id, .bool (p).keep, .int .u8 (p).ttl, .int .u8 (p).proto, .int .u32 (p).src, .int .u32 (p).dst, .slice A1 n1 c1, .slice A2 n2 c2] 26 #[.int .u8 (q).tos, .int .u16 (q).id, .bool (q).keep, .int .u8 (q).ttl, .int .u8 (q).proto, .int .u32 (q).src, .int .u32 (q).dst, .slice B1 m1 d1, .slice B2 m2 d2] 26
  have Pc1 := P1.cell
  have Oc1 := O1.cell
  have Pl1 := P1.lt
  have Ol1 := O1.lt
  have x1 := (k2).below R1
  have y1 := (j2).below R1
  go_enter Tryz.func15, Tryz.ntmps15
  go_wp2_with (first
    | (go_at_call 32; ((with_reducible refine (ct w1 x1).mono ?_); rintro e u2 ⟨⟨OA, on, oc, DA, dn, dc, rfl, oa, hon, oda, hB2⟩⟩); (obtain ⟨w2, hw2, V2, kS2, hkS2, S2⟩ := nw1 u2 #[.int .u16 (s).src, .int .u16 (s).dst, .int .u32 (s).seq, .int .u32 (s).ack, .int .u8 (s).flags, .int .u16 (s).win, .int .u16 (s).urg, .slice OA on oc, .slice DA dn dc] 60); have Sc2 := S2.cell; have T2 := below_then hB2 V2; have da2 := (oda.bs).below V2; have P2 := P1.below T2; have Pc2 := P2.cell; clear Pc1; have O2 := O1.below T2; have Oc2 := O2.cell; clear Oc1; have x2 := x1.below T2; have y2 := y1.below T2; have R2 := below_then R1 T2; have KA2 := (oa.os (by omega) hso).below V2)
    | (go_at_call 32; ((with_reducible refine (cq w2 y2).mono ?_); rintro e u3 ⟨⟨OB, bn, bc, DB, en, ec, rfl, ob, hbn, odb, hB3⟩⟩); (obtain ⟨w3, hw3, V3, kX3, hkX3, X3⟩ := nw1 u3 #[.int .u16 (s).src, .int .u16 (s).dst, .int .u32 (s).seq, .int .u32 (s).ack, .int .u8 (s).flags, .int .u16 (s).win, .int .u16 (s).urg, .slice OB bn bc, .slice DB en ec] 60); have Xc3 := X3.cell; have T3 := below_then hB3 V3; have db3 := (odb.bs).below V3; have P3 := P2.below T3; have Pc3 := P3.cell; clear Pc2; have O3 := O2.below T3; have Oc3 := O3.cell; clear Oc2; have S3 := S2.below T3; have Sc3 := S3.cell; clear Sc2; have x3 := x2.below T3; have y3 := y2.below T3; have da3 := da2.below T3; have R3 := below_then R2 T3; have KA3 := KA2.below T3; have KB3 := (ob.os (by omega) hso).below V3)
    | (go_at_call 44; ((with_reducible refine (cs OA on oc DA dn dc OB bn bc DB en ec w3 KA3 da3 KB3 db3).mono ?_); rintro e w4 ⟨rfl, hB4⟩); have P4 := P3.below hB4; have Pc4 := P4.cell; clear Pc3; have O4 := O3.below hB4; have Oc4 := O4.cell; clear Oc3; have S4 := S3.below hB4; have Sc4 := S4.cell; clear Sc3; have X4 := X3.below hB4; have Xc4 := X4.cell; clear Xc3; have x4 := x3.below hB4; have y4 := y3.below hB4; have da4 := da3.below hB4; have db4 := db3.below hB4; have R4 := below_then R3 hB4))
  go_ret
  exact ⟨rfl, R4⟩
theorem alike_udp (p q : Pkt) (A1 : Option Addr) (n1 c1 : Nat) (A2 : Option Addr) (n2 c2 : Nat) (B1 : Option Addr) (m1 d1 : Nat) (B2 : Option Addr) (m2 d2 : Nat) (w : World) (k2 : Bs w A2 n2 c2 p.dat) (j2 : Bs w B2 m2 d2 q.dat) (e1 : (p.src != q.src) = false) (e2 : (p.dst != q.dst) = false) (e3 : (p.proto != q.proto) = false) (hpr : p.proto = 17) (s : Dgm)
    (ct : ∀ W, Bs W A2 n2 c2 p.dat → Calls Tryz.prog 33 #[(.agg #[.int .u8 (p).tos, .int .u16 (p).id, .bool (p).keep, .int .u8 (p).ttl, .int .u8 (p).proto, .int .u32 (p).src, .int .u32 (p).dst, .slice A1 n1 c1, .slice A2 n2 c2])] W (DgPost W s 0)) (cq : ∀ W, Bs W B2 m2 d2 q.dat → Calls Tryz.prog 33 #[(.agg #[.int .u8 (q).tos, .int .u16 (q).id, .bool (q).keep, .int .u8 (q).ttl, .int .u8 (q).proto, .int .u32 (q).src, .int .u32 (q).dst, .slice B1 m1 d1, .slice B2 m2 d2])] W (DgPost W s 0)) :
    Calls Tryz.prog 15 #[(.agg #[.int .u8 (p).tos, .int .u16 (p).id, .bool (p).keep, .int .u8 (p).ttl, .int .u8 (p).proto, .int .u32 (p).src, .int .u32 (p).dst, .slice A1 n1 c1, .slice A2 n2 c2]), (.agg #[.int .u8 (q).tos, .int .u16 (q).id, .bool (q).keep, .int .u8 (q).ttl, .int .u8 (q).proto, .int .u32 (q).src, .int .u32 (q).dst, .slice B1 m1 d1, .slice B2 m2 d2])] w fun e w' => e = .returned (.bool true) ∧ Below w.heap.size w w' := by
  have hn6 : (p.proto == 6) = false := by rw [hpr]; rfl
  have y17 : (p.proto == 17) = true := by rw [hpr]; rfl
  clear hpr
  have cs : ∀ DA dn dc EB en ec W, Bs W DA dn dc s.dat → Bs W EB en ec s.dat → Calls Tryz.prog 45 #[(.agg #[.int .u16 (s).src, .int .u16 (s).dst, .bool (s).bare, .slice DA dn dc]), (.agg #[.int .u16 (s).src, .int .u16 (s).dst, .bool (s).bare, .slice EB en ec])] W fun e w' => e = .returned (.bool true) ∧ Below W.heap.size W w' := fun DA dn dc EB en ec W a b => by
    have := rdsame_any s s DA dn dc EB en ec W a b
    rw [sameD_self] at this
    exact this
  obtain ⟨k, hk, w1, hw1, P1, O1, R1⟩ := nwI2 w #[.int .u8 (p).tos, .int .u16 (p).id, .bool (p).keep, .int .u8 (p).ttl, .int .u8 (p).proto, .int .u32 (p).src, .int .u32 (p).dst, .slice A1 n1 c1, .slice A2 n2 c2] 26 #[.int .u8 (q).tos, .int .u16 (q).id, .bool (q).keep, .int .u8 (q).ttl, .int .u8 (q).proto, .int .u32 (q).src, .int .u32 (q).dst, .slice B1 m1 d1, .slice B2 m2 d2] 26
  have Pc1 := P1.cell
  have Oc1 := O1.cell
  have Pl1 := P1.lt
  have Ol1 := O1.lt
  have x1 := (k2).below R1
  have y1 := (j2).below R1
  go_enter Tryz.func15, Tryz.ntmps15
  go_wp2_with (first
    | (go_at_call 33; ((with_reducible refine (ct w1 x1).mono ?_); rintro e u2 ⟨⟨DA, dn, dc, rfl, oda, hB2⟩⟩); (obtain ⟨w2, hw2, V2, kS2, hkS2, S2⟩ := nw1 u2 #[.int .u16 (s).src, .int .u16 (s).dst, .bool (s).bare, .slice DA dn dc] 57); have Sc2 := S2.cell; have T2 := below_then hB2 V2; have da2 := (oda.bs).below V2; have P2 := P1.below T2; have Pc2 := P2.cell; clear Pc1; have O2 := O1.below T2; have Oc2 := O2.cell; clear Oc1; have x2 := x1.below T2; have y2 := y1.below T2; have R2 := below_then R1 T2)
    | (go_at_call 33; ((with_reducible refine (cq w2 y2).mono ?_); rintro e u3 ⟨⟨DB, en, ec, rfl, odb, hB3⟩⟩); (obtain ⟨w3, hw3, V3, kX3, hkX3, X3⟩ := nw1 u3 #[.int .u16 (s).src, .int .u16 (s).dst, .bool (s).bare, .slice DB en ec] 57); have Xc3 := X3.cell; have T3 := below_then hB3 V3; have db3 := (odb.bs).below V3; have P3 := P2.below T3; have Pc3 := P3.cell; clear Pc2; have O3 := O2.below T3; have Oc3 := O3.cell; clear Oc2; have S3 := S2.below T3; have Sc3 := S3.cell; clear Sc2; have x3 := x2.below T3; have y3 := y2.below T3; have da3 := da2.below T3; have R3 := below_then R2 T3)
    | (go_at_call 45; ((with_reducible refine (cs DA dn dc DB en ec w3 da3 db3).mono ?_); rintro e w4 ⟨rfl, hB4⟩); have P4 := P3.below hB4; have Pc4 := P4.cell; clear Pc3; have O4 := O3.below hB4; have Oc4 := O4.cell; clear Oc3; have S4 := S3.below hB4; have Sc4 := S4.cell; clear Sc3; have X4 := X3.below hB4; have Xc4 := X4.cell; clear Xc3; have x4 := x3.below hB4; have y4 := y3.below hB4; have da4 := da3.below hB4; have db4 := db3.below hB4; have R4 := below_then R3 hB4))
  go_ret
  exact ⟨rfl, R4⟩
theorem alike_icmp (p q : Pkt) (A1 : Option Addr) (n1 c1 : Nat) (A2 : Option Addr) (n2 c2 : Nat) (B1 : Option Addr) (m1 d1 : Nat) (B2 : Option Addr) (m2 d2 : Nat) (w : World) (k2 : Bs w A2 n2 c2 p.dat) (j2 : Bs w B2 m2 d2 q.dat) (e1 : (p.src != q.src) = false) (e2 : (p.dst != q.dst) = false) (e3 : (p.proto != q.proto) = false) (hpr : p.proto = 1) (s : Msg)
    (ct : ∀ W, Bs W A2 n2 c2 p.dat → Calls Tryz.prog 12 #[(.agg #[.int .u8 (p).tos, .int .u16 (p).id, .bool (p).keep, .int .u8 (p).ttl, .int .u8 (p).proto, .int .u32 (p).src, .int .u32 (p).dst, .slice A1 n1 c1, .slice A2 n2 c2])] W (MsPost W s 0)) (cq : ∀ W, Bs W B2 m2 d2 q.dat → Calls Tryz.prog 12 #[(.agg #[.int .u8 (q).tos, .int .u16 (q).id, .bool (q).keep, .int .u8 (q).ttl, .int .u8 (q).proto, .int .u32 (q).src, .int .u32 (q).dst, .slice B1 m1 d1, .slice B2 m2 d2])] W (MsPost W s 0)) :
    Calls Tryz.prog 15 #[(.agg #[.int .u8 (p).tos, .int .u16 (p).id, .bool (p).keep, .int .u8 (p).ttl, .int .u8 (p).proto, .int .u32 (p).src, .int .u32 (p).dst, .slice A1 n1 c1, .slice A2 n2 c2]), (.agg #[.int .u8 (q).tos, .int .u16 (q).id, .bool (q).keep, .int .u8 (q).ttl, .int .u8 (q).proto, .int .u32 (q).src, .int .u32 (q).dst, .slice B1 m1 d1, .slice B2 m2 d2])] w fun e w' => e = .returned (.bool true) ∧ Below w.heap.size w w' := by
  have hn6 : (p.proto == 6) = false := by rw [hpr]; rfl
  have hn17 : (p.proto == 17) = false := by rw [hpr]; rfl
  have y1 : (p.proto == 1) = true := by rw [hpr]; rfl
  clear hpr
  have cs : ∀ DA dn dc EB en ec W, Bs W DA dn dc s.dat → Bs W EB en ec s.dat → Calls Tryz.prog 46 #[(.agg #[.int .u8 (s).ty, .int .u8 (s).code, .int .u32 (s).rest, .slice DA dn dc]), (.agg #[.int .u8 (s).ty, .int .u8 (s).code, .int .u32 (s).rest, .slice EB en ec])] W fun e w' => e = .returned (.bool true) ∧ Below W.heap.size W w' := fun DA dn dc EB en ec W a b => by
    have := rmsame_any s s DA dn dc EB en ec W a b
    rw [sameM_self] at this
    exact this
  obtain ⟨k, hk, w1, hw1, P1, O1, R1⟩ := nwI2 w #[.int .u8 (p).tos, .int .u16 (p).id, .bool (p).keep, .int .u8 (p).ttl, .int .u8 (p).proto, .int .u32 (p).src, .int .u32 (p).dst, .slice A1 n1 c1, .slice A2 n2 c2] 26 #[.int .u8 (q).tos, .int .u16 (q).id, .bool (q).keep, .int .u8 (q).ttl, .int .u8 (q).proto, .int .u32 (q).src, .int .u32 (q).dst, .slice B1 m1 d1, .slice B2 m2 d2] 26
  have Pc1 := P1.cell
  have Oc1 := O1.cell
  have Pl1 := P1.lt
  have Ol1 := O1.lt
  have x1 := (k2).below R1
  have y1 := (j2).below R1
  go_enter Tryz.func15, Tryz.ntmps15
  go_wp2_with (first
    | (go_at_call 12; ((with_reducible refine (ct w1 x1).mono ?_); rintro e u2 ⟨⟨DA, dn, dc, rfl, oda, hB2⟩⟩); (obtain ⟨w2, hw2, V2, kS2, hkS2, S2⟩ := nw1 u2 #[.int .u8 (s).ty, .int .u8 (s).code, .int .u32 (s).rest, .slice DA dn dc] 42); have Sc2 := S2.cell; have T2 := below_then hB2 V2; have da2 := (oda.bs).below V2; have P2 := P1.below T2; have Pc2 := P2.cell; clear Pc1; have O2 := O1.below T2; have Oc2 := O2.cell; clear Oc1; have x2 := x1.below T2; have y2 := y1.below T2; have R2 := below_then R1 T2)
    | (go_at_call 12; ((with_reducible refine (cq w2 y2).mono ?_); rintro e u3 ⟨⟨DB, en, ec, rfl, odb, hB3⟩⟩); (obtain ⟨w3, hw3, V3, kX3, hkX3, X3⟩ := nw1 u3 #[.int .u8 (s).ty, .int .u8 (s).code, .int .u32 (s).rest, .slice DB en ec] 42); have Xc3 := X3.cell; have T3 := below_then hB3 V3; have db3 := (odb.bs).below V3; have P3 := P2.below T3; have Pc3 := P3.cell; clear Pc2; have O3 := O2.below T3; have Oc3 := O3.cell; clear Oc2; have S3 := S2.below T3; have Sc3 := S3.cell; clear Sc2; have x3 := x2.below T3; have y3 := y2.below T3; have da3 := da2.below T3; have R3 := below_then R2 T3)
    | (go_at_call 46; ((with_reducible refine (cs DA dn dc DB en ec w3 da3 db3).mono ?_); rintro e w4 ⟨rfl, hB4⟩); have P4 := P3.below hB4; have Pc4 := P4.cell; clear Pc3; have O4 := O3.below hB4; have Oc4 := O4.cell; clear Oc3; have S4 := S3.below hB4; have Sc4 := S4.cell; clear Sc3; have X4 := X3.below hB4; have Xc4 := X4.cell; clear Xc3; have x4 := x3.below hB4; have y4 := y3.below hB4; have da4 := da3.below hB4; have db4 := db3.below hB4; have R4 := below_then R3 hB4))
  go_ret
  exact ⟨rfl, R4⟩
theorem alike_gre (p q : Pkt) (A1 : Option Addr) (n1 c1 : Nat) (A2 : Option Addr) (n2 c2 : Nat) (B1 : Option Addr) (m1 d1 : Nat) (B2 : Option Addr) (m2 d2 : Nat) (w : World) (k2 : Bs w A2 n2 c2 p.dat) (j2 : Bs w B2 m2 d2 q.dat) (e1 : (p.src != q.src) = false) (e2 : (p.dst != q.dst) = false) (e3 : (p.proto != q.proto) = false) (hpr : p.proto = 47) (s : Frm)
    (ct : ∀ W, Bs W A2 n2 c2 p.dat → Calls Tryz.prog 35 #[(.agg #[.int .u8 (p).tos, .int .u16 (p).id, .bool (p).keep, .int .u8 (p).ttl, .int .u8 (p).proto, .int .u32 (p).src, .int .u32 (p).dst, .slice A1 n1 c1, .slice A2 n2 c2])] W (FrPost W s 0)) (cq : ∀ W, Bs W B2 m2 d2 q.dat → Calls Tryz.prog 35 #[(.agg #[.int .u8 (q).tos, .int .u16 (q).id, .bool (q).keep, .int .u8 (q).ttl, .int .u8 (q).proto, .int .u32 (q).src, .int .u32 (q).dst, .slice B1 m1 d1, .slice B2 m2 d2])] W (FrPost W s 0)) :
    Calls Tryz.prog 15 #[(.agg #[.int .u8 (p).tos, .int .u16 (p).id, .bool (p).keep, .int .u8 (p).ttl, .int .u8 (p).proto, .int .u32 (p).src, .int .u32 (p).dst, .slice A1 n1 c1, .slice A2 n2 c2]), (.agg #[.int .u8 (q).tos, .int .u16 (q).id, .bool (q).keep, .int .u8 (q).ttl, .int .u8 (q).proto, .int .u32 (q).src, .int .u32 (q).dst, .slice B1 m1 d1, .slice B2 m2 d2])] w fun e w' => e = .returned (.bool true) ∧ Below w.heap.size w w' := by
  have hn6 : (p.proto == 6) = false := by rw [hpr]; rfl
  have hn17 : (p.proto == 17) = false := by rw [hpr]; rfl
  have hn1 : (p.proto == 1) = false := by rw [hpr]; rfl
  clear hpr
  have cs : ∀ DA dn dc EB en ec W, Bs W DA dn dc s.dat → Bs W EB en ec s.dat → Calls Tryz.prog 47 #[(.agg #[.int .u16 (s).call, .bool (s).hs, .bool (s).ha, .int .u32 (s).seq, .int .u32 (s).ack, .slice DA dn dc]), (.agg #[.int .u16 (s).call, .bool (s).hs, .bool (s).ha, .int .u32 (s).seq, .int .u32 (s).ack, .slice EB en ec])] W fun e w' => e = .returned (.bool true) ∧ Below W.heap.size W w' := fun DA dn dc EB en ec W a b => by
    have := rgsame_any s s DA dn dc EB en ec W a b
    rw [sameF_self] at this
    exact this
  obtain ⟨k, hk, w1, hw1, P1, O1, R1⟩ := nwI2 w #[.int .u8 (p).tos, .int .u16 (p).id, .bool (p).keep, .int .u8 (p).ttl, .int .u8 (p).proto, .int .u32 (p).src, .int .u32 (p).dst, .slice A1 n1 c1, .slice A2 n2 c2] 26 #[.int .u8 (q).tos, .int .u16 (q).id, .bool (q).keep, .int .u8 (q).ttl, .int .u8 (q).proto, .int .u32 (q).src, .int .u32 (q).dst, .slice B1 m1 d1, .slice B2 m2 d2] 26
  have Pc1 := P1.cell
  have Oc1 := O1.cell
  have Pl1 := P1.lt
  have Ol1 := O1.lt
  have x1 := (k2).below R1
  have y1 := (j2).below R1
  go_enter Tryz.func15, Tryz.ntmps15
  go_wp2_with (first
    | (go_at_call 35; ((with_reducible refine (ct w1 x1).mono ?_); rintro e u2 ⟨⟨DA, dn, dc, rfl, oda, hB2⟩⟩); (obtain ⟨w2, hw2, V2, kS2, hkS2, S2⟩ := nw1 u2 #[.int .u16 (s).call, .bool (s).hs, .bool (s).ha, .int .u32 (s).seq, .int .u32 (s).ack, .slice DA dn dc] 68); have Sc2 := S2.cell; have T2 := below_then hB2 V2; have da2 := (oda.bs).below V2; have P2 := P1.below T2; have Pc2 := P2.cell; clear Pc1; have O2 := O1.below T2; have Oc2 := O2.cell; clear Oc1; have x2 := x1.below T2; have y2 := y1.below T2; have R2 := below_then R1 T2)
    | (go_at_call 35; ((with_reducible refine (cq w2 y2).mono ?_); rintro e u3 ⟨⟨DB, en, ec, rfl, odb, hB3⟩⟩); (obtain ⟨w3, hw3, V3, kX3, hkX3, X3⟩ := nw1 u3 #[.int .u16 (s).call, .bool (s).hs, .bool (s).ha, .int .u32 (s).seq, .int .u32 (s).ack, .slice DB en ec] 68); have Xc3 := X3.cell; have T3 := below_then hB3 V3; have db3 := (odb.bs).below V3; have P3 := P2.below T3; have Pc3 := P3.cell; clear Pc2; have O3 := O2.below T3; have Oc3 := O3.cell; clear Oc2; have S3 := S2.below T3; have Sc3 := S3.cell; clear Sc2; have x3 := x2.below T3; have y3 := y2.below T3; have da3 := da2.below T3; have R3 := below_then R2 T3)
    | (go_at_call 47; ((with_reducible refine (cs DA dn dc DB en ec w3 da3 db3).mono ?_); rintro e w4 ⟨rfl, hB4⟩); have P4 := P3.below hB4; have Pc4 := P4.cell; clear Pc3; have O4 := O3.below hB4; have Oc4 := O4.cell; clear Oc3; have S4 := S3.below hB4; have Sc4 := S4.cell; clear Sc3; have X4 := X3.below hB4; have Xc4 := X4.cell; clear Xc3; have x4 := x3.below hB4; have y4 := y3.below hB4; have da4 := da3.below hB4; have db4 := db3.below hB4; have R4 := below_then R3 hB4))
  go_ret
  exact ⟨rfl, R4⟩
theorem alike_any (p q : Pkt) (hp : p.Ok) (hq : q.Ok) (A1 : Option Addr) (n1 c1 : Nat) (A2 : Option Addr) (n2 c2 : Nat) (B1 : Option Addr) (m1 d1 : Nat) (B2 : Option Addr) (m2 d2 : Nat) (w : World) (k2 : Bs w A2 n2 c2 p.dat) (j2 : Bs w B2 m2 d2 q.dat) (z2 : n2 ≤ 17592186044400) (y2 : m2 ≤ 17592186044400) (h : alikeB p q = true) (hof : ofE p = 0) :
    Calls Tryz.prog 15 #[(.agg #[.int .u8 (p).tos, .int .u16 (p).id, .bool (p).keep, .int .u8 (p).ttl, .int .u8 (p).proto, .int .u32 (p).src, .int .u32 (p).dst, .slice A1 n1 c1, .slice A2 n2 c2]), (.agg #[.int .u8 (q).tos, .int .u16 (q).id, .bool (q).keep, .int .u8 (q).ttl, .int .u8 (q).proto, .int .u32 (q).src, .int .u32 (q).dst, .slice B1 m1 d1, .slice B2 m2 d2])] w fun e w' => e = .returned (.bool true) ∧ Below w.heap.size w w' := by
  unfold alikeB at h
  simp only [Bool.and_eq_true, beq_iff_eq] at h
  obtain ⟨⟨⟨h1, h2⟩, h3⟩, h4⟩ := h
  have e1 : (p.src != q.src) = false := by simp [h1]
  have e2 : (p.dst != q.dst) = false := by simp [h2]
  have e3 : (p.proto != q.proto) = false := by simp [h3]
  rcases own_ways hof with ⟨c, -⟩ | ⟨c, -⟩ | ⟨c, -⟩ | ⟨c, -⟩
  · rw [if_pos c] at h4
    simp only [Bool.and_eq_true, beq_iff_eq] at h4
    obtain ⟨⟨a, b⟩, e⟩ := h4
    rw [sameS_iff] at e
    have ct := fun W k => rtcp_any p hp A1 n1 c1 A2 n2 c2 W k z2
    have cq := fun W k => rtcp_any q hq B1 m1 d1 B2 m2 d2 W k y2
    rw [a] at ct
    rw [b, ← e] at cq
    exact alike_tcp p q A1 n1 c1 A2 n2 c2 B1 m1 d1 B2 m2 d2 w k2 j2 e1 e2 e3 c _ (tcS_ok p).opts ct cq
  · rw [if_neg (by omega), if_pos c] at h4
    simp only [Bool.and_eq_true, beq_iff_eq] at h4
    obtain ⟨⟨a, b⟩, e⟩ := h4
    rw [sameD_iff] at e
    have ct := fun W k => rudp_any p hp A1 n1 c1 A2 n2 c2 W k
    have cq := fun W k => rudp_any q hq B1 m1 d1 B2 m2 d2 W k
    rw [a] at ct
    rw [b, ← e] at cq
    exact alike_udp p q A1 n1 c1 A2 n2 c2 B1 m1 d1 B2 m2 d2 w k2 j2 e1 e2 e3 c _ ct cq
  · rw [if_neg (by omega), if_neg (by omega), if_pos c] at h4
    simp only [Bool.and_eq_true, beq_iff_eq] at h4
    obtain ⟨⟨a, b⟩, e⟩ := h4
    have e : icM p = icM q := by
      unfold sameM at e
      simp only [Bool.and_eq_true, beq_iff_eq] at e
      obtain ⟨⟨⟨x1, x2⟩, x3⟩, x4⟩ := e
      cases hx : icM p; cases hy : icM q
      rw [hx, hy] at x1 x2 x3 x4
      simp only at x1 x2 x3 x4
      subst x1 x2 x3 x4
      rfl
    have ct := fun W k => ricmp_any p A1 n1 c1 A2 n2 c2 W k (by omega)
    have cq := fun W k => ricmp_any q B1 m1 d1 B2 m2 d2 W k (by omega)
    rw [a] at ct
    rw [b, ← e] at cq
    exact alike_icmp p q A1 n1 c1 A2 n2 c2 B1 m1 d1 B2 m2 d2 w k2 j2 e1 e2 e3 c _ ct cq
  · rw [if_neg (by omega), if_neg (by omega), if_neg (by omega)] at h4
    simp only [Bool.and_eq_true, beq_iff_eq] at h4
    obtain ⟨⟨a, b⟩, e⟩ := h4
    rw [sameF_iff] at e
    have ct := fun W k => rgre_any p A1 n1 c1 A2 n2 c2 W k
    have cq := fun W k => rgre_any q B1 m1 d1 B2 m2 d2 W k
    rw [a] at ct
    rw [b, ← e] at cq
    exact alike_gre p q A1 n1 c1 A2 n2 c2 B1 m1 d1 B2 m2 d2 w k2 j2 e1 e2 e3 c _ ct cq
def d10 : Dgm := ⟨3, 4, false, []⟩
theorem mi_e1 (p : Pkt) (t : Tup) (A1 : Option Addr) (n1 c1 : Nat) (A2 : Option Addr) (n2 c2 : Nat) (w : World) (k1 : Bs w A1 n1 c1 p.opt) (k2 : Bs w A2 n2 c2 p.dat) (T : Tup) (E E2 : Int) (h0 : (E != 0) = true) (co : ∀ W, Bs W A2 n2 c2 p.dat → Calls Tryz.prog 9 #[(.agg #[.int .u8 (p).tos, .int .u16 (p).id, .bool (p).keep, .int .u8 (p).ttl, .int .u8 (p).proto, .int .u32 (p).src, .int .u32 (p).dst, .slice A1 n1 c1, .slice A2 n2 c2])] W (TtPost W T E)) (L : List UInt8) (N : Nat) (cb : ∀ W, Bs W A1 n1 c1 p.opt → Bs W A2 n2 c2 p.dat → Calls Tryz.prog 10 #[(.agg #[.int .u8 (p).tos, .int .u16 (p).id, .bool (p).keep, .int .u8 (p).ttl, .int .u8 (p).proto, .int .u32 (p).src, .int .u32 (p).dst, .slice A1 n1 c1, .slice A2 n2 c2])] W fun e w' => ∃ B c, e = .returned (.tuple #[.slice B N c, .int .i64 E2]) ∧ Bs w' B N c L ∧ Below W.heap.size W w')  : Calls Tryz.prog 4 #[(.agg #[.int .u8 (p).tos, .int .u16 (p).id, .bool (p).keep, .int .u8 (p).ttl, .int .u8 (p).proto, .int .u32 (p).src, .int .u32 (p).dst, .slice A1 n1 c1, .slice A2 n2 c2]), (.agg #[.int .u8 (t).proto, .int .u32 (t).src, .int .u32 (t).dst, .int .u16 (t).sp, .int .u16 (t).dp])] w fun e w' => e = .returned (.bool true) ∧ Below w.heap.size w w' := by
  obtain ⟨k, hk, w1, hw1, P1, U1, R1⟩ := nwI2 w #[.int .u8 (p).tos, .int .u16 (p).id, .bool (p).keep, .int .u8 (p).ttl, .int .u8 (p).proto, .int .u32 (p).src, .int .u32 (p).dst, .slice A1 n1 c1, .slice A2 n2 c2] 26 #[.int .u8 (t).proto, .int .u32 (t).src, .int .u32 (t).dst, .int .u16 (t).sp, .int .u16 (t).dp] 29
  have Pc1 := P1.cell
  have Uc1 := U1.cell
  have Pl1 := P1.lt
  have Ul1 := U1.lt
  have x1 := (k1).below R1
  have y1 := (k2).below R1
  go_enter Tryz.func4, Tryz.ntmps4
  go_wp2_with (first
    | (go_at_call 9; ((with_reducible refine (co w1 y1).mono ?_); rintro e u2 ⟨⟨rfl, hB2⟩⟩); (obtain ⟨w2, hw2, V2, kS2, hkS2, S2⟩ := nw1 u2 #[.int .u8 (T).proto, .int .u32 (T).src, .int .u32 (T).dst, .int .u16 (T).sp, .int .u16 (T).dp] 29); have Sc2 := S2.cell; have T2 := below_then hB2 V2; have P2 := P1.below T2; have Pc2 := P2.cell; clear Pc1; have U2 := U1.below T2; have Uc2 := U2.cell; clear Uc1; have x2 := x1.below T2; have y2 := y1.below T2; have R2 := below_then R1 T2)
    | (go_at_call 10; ((with_reducible refine (cb w2 x2 y2).mono ?_); rintro e w3 ⟨B, c, rfl, z, hB3⟩); have b3 := z; have P3 := P2.below hB3; have Pc3 := P3.cell; clear Pc2; have U3 := U2.below hB3; have Uc3 := U3.cell; clear Uc2; have S3 := S2.below hB3; have Sc3 := S3.cell; clear Sc2; have x3 := x2.below hB3; have y3 := y2.below hB3; have R3 := below_then R2 hB3)
    | (go_at_call 7; ((with_reducible refine (liveU_any w3).mono ?_); rintro e w4 ⟨rfl, hB4⟩); have P4 := P3.below hB4; have Pc4 := P4.cell; clear Pc3; have U4 := U3.below hB4; have Uc4 := U4.cell; clear Uc3; have S4 := S3.below hB4; have Sc4 := S4.cell; clear Sc3; have x4 := x3.below hB4; have y4 := y3.below hB4; have b4 := b3.below hB4; have R4 := below_then R3 hB4))
  go_ret
  exact ⟨rfl, R4⟩
theorem mi_e2 (p : Pkt) (t : Tup) (A1 : Option Addr) (n1 c1 : Nat) (A2 : Option Addr) (n2 c2 : Nat) (w : World) (k1 : Bs w A1 n1 c1 p.opt) (k2 : Bs w A2 n2 c2 p.dat) (T : Tup) (E : Int) (h0 : (E != 0) = true) (co : ∀ W, Bs W A2 n2 c2 p.dat → Calls Tryz.prog 9 #[(.agg #[.int .u8 (p).tos, .int .u16 (p).id, .bool (p).keep, .int .u8 (p).ttl, .int .u8 (p).proto, .int .u32 (p).src, .int .u32 (p).dst, .slice A1 n1 c1, .slice A2 n2 c2])] W (TtPost W T 0)) (L : List UInt8) (N : Nat) (cb : ∀ W, Bs W A1 n1 c1 p.opt → Bs W A2 n2 c2 p.dat → Calls Tryz.prog 10 #[(.agg #[.int .u8 (p).tos, .int .u16 (p).id, .bool (p).keep, .int .u8 (p).ttl, .int .u8 (p).proto, .int .u32 (p).src, .int .u32 (p).dst, .slice A1 n1 c1, .slice A2 n2 c2])] W fun e w' => ∃ B c, e = .returned (.tuple #[.slice B N c, .int .i64 E]) ∧ Bs w' B N c L ∧ Below W.heap.size W w')  : Calls Tryz.prog 4 #[(.agg #[.int .u8 (p).tos, .int .u16 (p).id, .bool (p).keep, .int .u8 (p).ttl, .int .u8 (p).proto, .int .u32 (p).src, .int .u32 (p).dst, .slice A1 n1 c1, .slice A2 n2 c2]), (.agg #[.int .u8 (t).proto, .int .u32 (t).src, .int .u32 (t).dst, .int .u16 (t).sp, .int .u16 (t).dp])] w fun e w' => e = .returned (.bool true) ∧ Below w.heap.size w w' := by
  obtain ⟨k, hk, w1, hw1, P1, U1, R1⟩ := nwI2 w #[.int .u8 (p).tos, .int .u16 (p).id, .bool (p).keep, .int .u8 (p).ttl, .int .u8 (p).proto, .int .u32 (p).src, .int .u32 (p).dst, .slice A1 n1 c1, .slice A2 n2 c2] 26 #[.int .u8 (t).proto, .int .u32 (t).src, .int .u32 (t).dst, .int .u16 (t).sp, .int .u16 (t).dp] 29
  have Pc1 := P1.cell
  have Uc1 := U1.cell
  have Pl1 := P1.lt
  have Ul1 := U1.lt
  have x1 := (k1).below R1
  have y1 := (k2).below R1
  go_enter Tryz.func4, Tryz.ntmps4
  go_wp2_with (first
    | (go_at_call 9; ((with_reducible refine (co w1 y1).mono ?_); rintro e u2 ⟨⟨rfl, hB2⟩⟩); (obtain ⟨w2, hw2, V2, kS2, hkS2, S2⟩ := nw1 u2 #[.int .u8 (T).proto, .int .u32 (T).src, .int .u32 (T).dst, .int .u16 (T).sp, .int .u16 (T).dp] 29); have Sc2 := S2.cell; have T2 := below_then hB2 V2; have P2 := P1.below T2; have Pc2 := P2.cell; clear Pc1; have U2 := U1.below T2; have Uc2 := U2.cell; clear Uc1; have x2 := x1.below T2; have y2 := y1.below T2; have R2 := below_then R1 T2)
    | (go_at_call 10; ((with_reducible refine (cb w2 x2 y2).mono ?_); rintro e w3 ⟨B, c, rfl, z, hB3⟩); have b3 := z; have P3 := P2.below hB3; have Pc3 := P3.cell; clear Pc2; have U3 := U2.below hB3; have Uc3 := U3.cell; clear Uc2; have S3 := S2.below hB3; have Sc3 := S3.cell; clear Sc2; have x3 := x2.below hB3; have y3 := y2.below hB3; have R3 := below_then R2 hB3)
    | (go_at_call 7; ((with_reducible refine (liveU_any w3).mono ?_); rintro e w4 ⟨rfl, hB4⟩); have P4 := P3.below hB4; have Pc4 := P4.cell; clear Pc3; have U4 := U3.below hB4; have Uc4 := U4.cell; clear Uc3; have S4 := S3.below hB4; have Sc4 := S4.cell; clear Sc3; have x4 := x3.below hB4; have y4 := y3.below hB4; have b4 := b3.below hB4; have R4 := below_then R3 hB4))
  go_ret
  exact ⟨rfl, R4⟩
theorem mi_e3 (p : Pkt) (t : Tup) (A1 : Option Addr) (n1 c1 : Nat) (A2 : Option Addr) (n2 c2 : Nat) (w : World) (k1 : Bs w A1 n1 c1 p.opt) (k2 : Bs w A2 n2 c2 p.dat) (T : Tup)  (co : ∀ W, Bs W A2 n2 c2 p.dat → Calls Tryz.prog 9 #[(.agg #[.int .u8 (p).tos, .int .u16 (p).id, .bool (p).keep, .int .u8 (p).ttl, .int .u8 (p).proto, .int .u32 (p).src, .int .u32 (p).dst, .slice A1 n1 c1, .slice A2 n2 c2])] W (TtPost W T 0)) (L : List UInt8) (N : Nat) (cb : ∀ W, Bs W A1 n1 c1 p.opt → Bs W A2 n2 c2 p.dat → Calls Tryz.prog 10 #[(.agg #[.int .u8 (p).tos, .int .u16 (p).id, .bool (p).keep, .int .u8 (p).ttl, .int .u8 (p).proto, .int .u32 (p).src, .int .u32 (p).dst, .slice A1 n1 c1, .slice A2 n2 c2])] W fun e w' => ∃ B c, e = .returned (.tuple #[.slice B N c, .int .i64 0]) ∧ Bs w' B N c L ∧ Below W.heap.size W w') (hN : (60000 : Int) < (N : Int)) : Calls Tryz.prog 4 #[(.agg #[.int .u8 (p).tos, .int .u16 (p).id, .bool (p).keep, .int .u8 (p).ttl, .int .u8 (p).proto, .int .u32 (p).src, .int .u32 (p).dst, .slice A1 n1 c1, .slice A2 n2 c2]), (.agg #[.int .u8 (t).proto, .int .u32 (t).src, .int .u32 (t).dst, .int .u16 (t).sp, .int .u16 (t).dp])] w fun e w' => e = .returned (.bool true) ∧ Below w.heap.size w w' := by
  obtain ⟨k, hk, w1, hw1, P1, U1, R1⟩ := nwI2 w #[.int .u8 (p).tos, .int .u16 (p).id, .bool (p).keep, .int .u8 (p).ttl, .int .u8 (p).proto, .int .u32 (p).src, .int .u32 (p).dst, .slice A1 n1 c1, .slice A2 n2 c2] 26 #[.int .u8 (t).proto, .int .u32 (t).src, .int .u32 (t).dst, .int .u16 (t).sp, .int .u16 (t).dp] 29
  have Pc1 := P1.cell
  have Uc1 := U1.cell
  have Pl1 := P1.lt
  have Ul1 := U1.lt
  have x1 := (k1).below R1
  have y1 := (k2).below R1
  go_enter Tryz.func4, Tryz.ntmps4
  go_wp2_with (first
    | (go_at_call 9; ((with_reducible refine (co w1 y1).mono ?_); rintro e u2 ⟨⟨rfl, hB2⟩⟩); (obtain ⟨w2, hw2, V2, kS2, hkS2, S2⟩ := nw1 u2 #[.int .u8 (T).proto, .int .u32 (T).src, .int .u32 (T).dst, .int .u16 (T).sp, .int .u16 (T).dp] 29); have Sc2 := S2.cell; have T2 := below_then hB2 V2; have P2 := P1.below T2; have Pc2 := P2.cell; clear Pc1; have U2 := U1.below T2; have Uc2 := U2.cell; clear Uc1; have x2 := x1.below T2; have y2 := y1.below T2; have R2 := below_then R1 T2)
    | (go_at_call 10; ((with_reducible refine (cb w2 x2 y2).mono ?_); rintro e w3 ⟨B, c, rfl, z, hB3⟩); have b3 := z; have P3 := P2.below hB3; have Pc3 := P3.cell; clear Pc2; have U3 := U2.below hB3; have Uc3 := U3.cell; clear Uc2; have S3 := S2.below hB3; have Sc3 := S3.cell; clear Sc2; have x3 := x2.below hB3; have y3 := y2.below hB3; have R3 := below_then R2 hB3)
    | (go_at_call 7; ((with_reducible refine (liveU_any w3).mono ?_); rintro e w4 ⟨rfl, hB4⟩); have P4 := P3.below hB4; have Pc4 := P4.cell; clear Pc3; have U4 := U3.below hB4; have Uc4 := U4.cell; clear Uc3; have S4 := S3.below hB4; have Sc4 := S4.cell; clear Sc3; have x4 := x3.below hB4; have y4 := y3.below hB4; have b4 := b3.below hB4; have R4 := below_then R3 hB4))
  go_ret
  exact ⟨rfl, R4⟩
theorem mi_e4 (p : Pkt) (t : Tup) (A1 : Option Addr) (n1 c1 : Nat) (A2 : Option Addr) (n2 c2 : Nat) (w : World) (k1 : Bs w A1 n1 c1 p.opt) (k2 : Bs w A2 n2 c2 p.dat) (T : Tup)  (co : ∀ W, Bs W A2 n2 c2 p.dat → Calls Tryz.prog 9 #[(.agg #[.int .u8 (p).tos, .int .u16 (p).id, .bool (p).keep, .int .u8 (p).ttl, .int .u8 (p).proto, .int .u32 (p).src, .int .u32 (p).dst, .slice A1 n1 c1, .slice A2 n2 c2])] W (TtPost W T 0)) (L : List UInt8) (N : Nat) (cb : ∀ W, Bs W A1 n1 c1 p.opt → Bs W A2 n2 c2 p.dat → Calls Tryz.prog 10 #[(.agg #[.int .u8 (p).tos, .int .u16 (p).id, .bool (p).keep, .int .u8 (p).ttl, .int .u8 (p).proto, .int .u32 (p).src, .int .u32 (p).dst, .slice A1 n1 c1, .slice A2 n2 c2])] W fun e w' => ∃ B c, e = .returned (.tuple #[.slice B N c, .int .i64 0]) ∧ Bs w' B N c L ∧ Below W.heap.size W w') (hN : (N : Int) ≤ 60000) (h0 : (t.proto != T.proto) = true) : Calls Tryz.prog 4 #[(.agg #[.int .u8 (p).tos, .int .u16 (p).id, .bool (p).keep, .int .u8 (p).ttl, .int .u8 (p).proto, .int .u32 (p).src, .int .u32 (p).dst, .slice A1 n1 c1, .slice A2 n2 c2]), (.agg #[.int .u8 (t).proto, .int .u32 (t).src, .int .u32 (t).dst, .int .u16 (t).sp, .int .u16 (t).dp])] w fun e w' => e = .returned (.bool true) ∧ Below w.heap.size w w' := by
  obtain ⟨k, hk, w1, hw1, P1, U1, R1⟩ := nwI2 w #[.int .u8 (p).tos, .int .u16 (p).id, .bool (p).keep, .int .u8 (p).ttl, .int .u8 (p).proto, .int .u32 (p).src, .int .u32 (p).dst, .slice A1 n1 c1, .slice A2 n2 c2] 26 #[.int .u8 (t).proto, .int .u32 (t).src, .int .u32 (t).dst, .int .u16 (t).sp, .int .u16 (t).dp] 29
  have Pc1 := P1.cell
  have Uc1 := U1.cell
  have Pl1 := P1.lt
  have Ul1 := U1.lt
  have x1 := (k1).below R1
  have y1 := (k2).below R1
  go_enter Tryz.func4, Tryz.ntmps4
  go_wp2_with (first
    | (go_at_call 9; ((with_reducible refine (co w1 y1).mono ?_); rintro e u2 ⟨⟨rfl, hB2⟩⟩); (obtain ⟨w2, hw2, V2, kS2, hkS2, S2⟩ := nw1 u2 #[.int .u8 (T).proto, .int .u32 (T).src, .int .u32 (T).dst, .int .u16 (T).sp, .int .u16 (T).dp] 29); have Sc2 := S2.cell; have T2 := below_then hB2 V2; have P2 := P1.below T2; have Pc2 := P2.cell; clear Pc1; have U2 := U1.below T2; have Uc2 := U2.cell; clear Uc1; have x2 := x1.below T2; have y2 := y1.below T2; have R2 := below_then R1 T2)
    | (go_at_call 10; ((with_reducible refine (cb w2 x2 y2).mono ?_); rintro e w3 ⟨B, c, rfl, z, hB3⟩); have b3 := z; have P3 := P2.below hB3; have Pc3 := P3.cell; clear Pc2; have U3 := U2.below hB3; have Uc3 := U3.cell; clear Uc2; have S3 := S2.below hB3; have Sc3 := S3.cell; clear Sc2; have x3 := x2.below hB3; have y3 := y2.below hB3; have R3 := below_then R2 hB3)
    | (go_at_call 7; ((with_reducible refine (liveU_any w3).mono ?_); rintro e w4 ⟨rfl, hB4⟩); have P4 := P3.below hB4; have Pc4 := P4.cell; clear Pc3; have U4 := U3.below hB4; have Uc4 := U4.cell; clear Uc3; have S4 := S3.below hB4; have Sc4 := S4.cell; clear Sc3; have x4 := x3.below hB4; have y4 := y3.below hB4; have b4 := b3.below hB4; have R4 := below_then R3 hB4))
  go_ret
  exact ⟨rfl, R4⟩
theorem mi_e5 (p : Pkt) (t : Tup) (A1 : Option Addr) (n1 c1 : Nat) (A2 : Option Addr) (n2 c2 : Nat) (w : World) (k1 : Bs w A1 n1 c1 p.opt) (k2 : Bs w A2 n2 c2 p.dat) (T : Tup)  (co : ∀ W, Bs W A2 n2 c2 p.dat → Calls Tryz.prog 9 #[(.agg #[.int .u8 (p).tos, .int .u16 (p).id, .bool (p).keep, .int .u8 (p).ttl, .int .u8 (p).proto, .int .u32 (p).src, .int .u32 (p).dst, .slice A1 n1 c1, .slice A2 n2 c2])] W (TtPost W T 0)) (L : List UInt8) (N : Nat) (cb : ∀ W, Bs W A1 n1 c1 p.opt → Bs W A2 n2 c2 p.dat → Calls Tryz.prog 10 #[(.agg #[.int .u8 (p).tos, .int .u16 (p).id, .bool (p).keep, .int .u8 (p).ttl, .int .u8 (p).proto, .int .u32 (p).src, .int .u32 (p).dst, .slice A1 n1 c1, .slice A2 n2 c2])] W fun e w' => ∃ B c, e = .returned (.tuple #[.slice B N c, .int .i64 0]) ∧ Bs w' B N c L ∧ Below W.heap.size W w') (hN : (N : Int) ≤ 60000) (h0 : (t.proto != T.proto) = false) (h1 : (t.proto == 1) = true) (h2 : (t.sp == 0) = true) : Calls Tryz.prog 4 #[(.agg #[.int .u8 (p).tos, .int .u16 (p).id, .bool (p).keep, .int .u8 (p).ttl, .int .u8 (p).proto, .int .u32 (p).src, .int .u32 (p).dst, .slice A1 n1 c1, .slice A2 n2 c2]), (.agg #[.int .u8 (t).proto, .int .u32 (t).src, .int .u32 (t).dst, .int .u16 (t).sp, .int .u16 (t).dp])] w fun e w' => e = .returned (.bool true) ∧ Below w.heap.size w w' := by
  obtain ⟨k, hk, w1, hw1, P1, U1, R1⟩ := nwI2 w #[.int .u8 (p).tos, .int .u16 (p).id, .bool (p).keep, .int .u8 (p).ttl, .int .u8 (p).proto, .int .u32 (p).src, .int .u32 (p).dst, .slice A1 n1 c1, .slice A2 n2 c2] 26 #[.int .u8 (t).proto, .int .u32 (t).src, .int .u32 (t).dst, .int .u16 (t).sp, .int .u16 (t).dp] 29
  have Pc1 := P1.cell
  have Uc1 := U1.cell
  have Pl1 := P1.lt
  have Ul1 := U1.lt
  have x1 := (k1).below R1
  have y1 := (k2).below R1
  go_enter Tryz.func4, Tryz.ntmps4
  go_wp2_with (first
    | (go_at_call 9; ((with_reducible refine (co w1 y1).mono ?_); rintro e u2 ⟨⟨rfl, hB2⟩⟩); (obtain ⟨w2, hw2, V2, kS2, hkS2, S2⟩ := nw1 u2 #[.int .u8 (T).proto, .int .u32 (T).src, .int .u32 (T).dst, .int .u16 (T).sp, .int .u16 (T).dp] 29); have Sc2 := S2.cell; have T2 := below_then hB2 V2; have P2 := P1.below T2; have Pc2 := P2.cell; clear Pc1; have U2 := U1.below T2; have Uc2 := U2.cell; clear Uc1; have x2 := x1.below T2; have y2 := y1.below T2; have R2 := below_then R1 T2)
    | (go_at_call 10; ((with_reducible refine (cb w2 x2 y2).mono ?_); rintro e w3 ⟨B, c, rfl, z, hB3⟩); have b3 := z; have P3 := P2.below hB3; have Pc3 := P3.cell; clear Pc2; have U3 := U2.below hB3; have Uc3 := U3.cell; clear Uc2; have S3 := S2.below hB3; have Sc3 := S3.cell; clear Sc2; have x3 := x2.below hB3; have y3 := y2.below hB3; have R3 := below_then R2 hB3)
    | (go_at_call 7; ((with_reducible refine (liveU_any w3).mono ?_); rintro e w4 ⟨rfl, hB4⟩); have P4 := P3.below hB4; have Pc4 := P4.cell; clear Pc3; have U4 := U3.below hB4; have Uc4 := U4.cell; clear Uc3; have S4 := S3.below hB4; have Sc4 := S4.cell; clear Sc3; have x4 := x3.below hB4; have y4 := y3.below hB4; have b4 := b3.below hB4; have R4 := below_then R3 hB4))
  go_ret
  exact ⟨rfl, R4⟩
theorem mi_g1 (p : Pkt) (t : Tup) (A1 : Option Addr) (n1 c1 : Nat) (A2 : Option Addr) (n2 c2 : Nat) (w : World) (k1 : Bs w A1 n1 c1 p.opt) (k2 : Bs w A2 n2 c2 p.dat) (T : Tup) (co : ∀ W, Bs W A2 n2 c2 p.dat → Calls Tryz.prog 9 #[(.agg #[.int .u8 (p).tos, .int .u16 (p).id, .bool (p).keep, .int .u8 (p).ttl, .int .u8 (p).proto, .int .u32 (p).src, .int .u32 (p).dst, .slice A1 n1 c1, .slice A2 n2 c2])] W (TtPost W T 0)) (L : List UInt8) (N : Nat) (cb : ∀ W, Bs W A1 n1 c1 p.opt → Bs W A2 n2 c2 p.dat → Calls Tryz.prog 10 #[(.agg #[.int .u8 (p).tos, .int .u16 (p).id, .bool (p).keep, .int .u8 (p).ttl, .int .u8 (p).proto, .int .u32 (p).src, .int .u32 (p).dst, .slice A1 n1 c1, .slice A2 n2 c2])] W fun e w' => ∃ B c, e = .returned (.tuple #[.slice B N c, .int .i64 0]) ∧ Bs w' B N c L ∧ Below W.heap.size W w') (hN : (N : Int) ≤ 60000) (h0 : (t.proto != T.proto) = false) (h1 : (t.proto == 1) = false) (Y V : List UInt8) (m : Msg) (r q : Pkt)
    (ci : ∀ W B c, Bs W B N c L → Calls Tryz.prog 11 #[.agg #[.int .u8 0, .int .u16 0, .bool false, .int .u8 7, .int .u8 0, .int .u32 9, .int .u32 8, .slice none 0 0, .slice none 0 0], .agg #[.int .u8 3, .int .u8 0, .int .u32 0, .slice B N c]] W fun e w' => ∃ C1 e1 f1 C2 e2 f2, e = .returned (.tuple #[.agg #[.int .u8 0, .int .u16 0, .bool false, .int .u8 7, .int .u8 1, .int .u32 9, .int .u32 8, .slice C1 e1 f1, .slice C2 e2 f2], .int .i64 0]) ∧ Bs w' C1 e1 f1 [] ∧ Bs w' C2 e2 f2 Y ∧ Below W.heap.size W w')
    (cr : ∀ W C1 e1 f1 C2 e2 f2, Bs W C1 e1 f1 [] → Bs W C2 e2 f2 Y → Calls Tryz.prog 5 #[.agg #[.int .u8 0, .int .u16 0, .bool false, .int .u8 7, .int .u8 1, .int .u32 9, .int .u32 8, .slice C1 e1 f1, .slice C2 e2 f2], .int .u32 1, .int .u32 2, (.agg #[.int .u8 (t).proto, .int .u32 (t).src, .int .u32 (t).dst, .int .u16 (t).sp, .int .u16 (t).dp])] W fun e w' => ∃ D1 g1 h1 D2 g2 h2, e = .returned (.tuple #[.agg #[.int .u8 0, .int .u16 0, .bool false, .int .u8 7, .int .u8 1, .int .u32 1, .int .u32 2, .slice D1 g1 h1, .slice D2 g2 h2], .int .i64 0]) ∧ Bs w' D1 g1 h1 [] ∧ Bs w' D2 g2 h2 V ∧ Below W.heap.size W w')
    (cp : ∀ W D1 g1 h1 D2 g2 h2, Bs W D2 g2 h2 V → Calls Tryz.prog 12 #[.agg #[.int .u8 0, .int .u16 0, .bool false, .int .u8 7, .int .u8 1, .int .u32 1, .int .u32 2, .slice D1 g1 h1, .slice D2 g2 h2]] W (MsPost W m 0))
    (cd : ∀ W B b1 b2, Bs W B b1 b2 m.dat → Calls Tryz.prog 13 #[.slice B b1 b2] W fun e w' => ∃ F1 i1 j1 F2 i2 j2, e = .returned (.tuple #[(.agg #[.int .u8 (r).tos, .int .u16 (r).id, .bool (r).keep, .int .u8 (r).ttl, .int .u8 (r).proto, .int .u32 (r).src, .int .u32 (r).dst, .slice F1 i1 j1, .slice F2 i2 j2]), .int .i64 0]) ∧ Bs w' F1 i1 j1 r.opt ∧ Bs w' F2 i2 j2 r.dat ∧ Below W.heap.size W w')
    (cw : ∀ W, Bs W A1 n1 c1 p.opt → Bs W A2 n2 c2 p.dat → Calls Tryz.prog 14 #[(.agg #[.int .u8 (p).tos, .int .u16 (p).id, .bool (p).keep, .int .u8 (p).ttl, .int .u8 (p).proto, .int .u32 (p).src, .int .u32 (p).dst, .slice A1 n1 c1, .slice A2 n2 c2]), (.agg #[.int .u8 (t).proto, .int .u32 (t).src, .int .u32 (t).dst, .int .u16 (t).sp, .int .u16 (t).dp])] W (WiPost W q 0))
    (ca : ∀ W F1 i1 j1 F2 i2 j2 G1 a1 b1 G2 a2 b2, Bs W F2 i2 j2 r.dat → Bs W G2 a2 b2 q.dat → Calls Tryz.prog 15 #[(.agg #[.int .u8 (r).tos, .int .u16 (r).id, .bool (r).keep, .int .u8 (r).ttl, .int .u8 (r).proto, .int .u32 (r).src, .int .u32 (r).dst, .slice F1 i1 j1, .slice F2 i2 j2]), (.agg #[.int .u8 (q).tos, .int .u16 (q).id, .bool (q).keep, .int .u8 (q).ttl, .int .u8 (q).proto, .int .u32 (q).src, .int .u32 (q).dst, .slice G1 a1 b1, .slice G2 a2 b2])] W fun e w' => e = .returned (.bool true) ∧ Below W.heap.size W w') : Calls Tryz.prog 4 #[(.agg #[.int .u8 (p).tos, .int .u16 (p).id, .bool (p).keep, .int .u8 (p).ttl, .int .u8 (p).proto, .int .u32 (p).src, .int .u32 (p).dst, .slice A1 n1 c1, .slice A2 n2 c2]), (.agg #[.int .u8 (t).proto, .int .u32 (t).src, .int .u32 (t).dst, .int .u16 (t).sp, .int .u16 (t).dp])] w fun e w' => e = .returned (.bool true) ∧ Below w.heap.size w w' := by
  obtain ⟨k, hk, w1, hw1, P1, U1, R1⟩ := nwI2 w #[.int .u8 (p).tos, .int .u16 (p).id, .bool (p).keep, .int .u8 (p).ttl, .int .u8 (p).proto, .int .u32 (p).src, .int .u32 (p).dst, .slice A1 n1 c1, .slice A2 n2 c2] 26 #[.int .u8 (t).proto, .int .u32 (t).src, .int .u32 (t).dst, .int .u16 (t).sp, .int .u16 (t).dp] 29
  have Pc1 := P1.cell
  have Uc1 := U1.cell
  have Pl1 := P1.lt
  have Ul1 := U1.lt
  have x1 := (k1).below R1
  have y1 := (k2).below R1
  go_enter Tryz.func4, Tryz.ntmps4
  go_wp2_with (first
    | (go_at_call 9; ((with_reducible refine (co w1 y1).mono ?_); rintro e u2 ⟨⟨rfl, hB2⟩⟩); (obtain ⟨w2, hw2, V2, kS2, hkS2, S2⟩ := nw1 u2 #[.int .u8 (T).proto, .int .u32 (T).src, .int .u32 (T).dst, .int .u16 (T).sp, .int .u16 (T).dp] 29); have Sc2 := S2.cell; have T2 := below_then hB2 V2; have P2 := P1.below T2; have Pc2 := P2.cell; clear Pc1; have U2 := U1.below T2; have Uc2 := U2.cell; clear Uc1; have x2 := x1.below T2; have y2 := y1.below T2; have R2 := below_then R1 T2)
    | (go_at_call 10; ((with_reducible refine (cb w2 x2 y2).mono ?_); rintro e w3 ⟨B, c, rfl, z, hB3⟩); have b3 := z; have P3 := P2.below hB3; have Pc3 := P3.cell; clear Pc2; have U3 := U2.below hB3; have Uc3 := U3.cell; clear Uc2; have S3 := S2.below hB3; have Sc3 := S3.cell; clear Sc2; have x3 := x2.below hB3; have y3 := y2.below hB3; have R3 := below_then R2 hB3)
    | (go_at_call 11; ((with_reducible refine (ci w3 B c b3).mono ?_); rintro e u4 ⟨C1, e1, f1, C2, e2, f2, rfl, o1, o2, hB4⟩); (obtain ⟨w4, hw4, V4, kO4, hkO4, O4⟩ := nw1 u4 #[.int .u8 0, .int .u16 0, .bool false, .int .u8 7, .int .u8 1, .int .u32 9, .int .u32 8, .slice C1 e1 f1, .slice C2 e2 f2] 26); have Oc4 := O4.cell; have T4 := below_then hB4 V4; have v4 := (o1).below V4; have z4 := (o2).below V4; have P4 := P3.below T4; have Pc4 := P4.cell; clear Pc3; have U4 := U3.below T4; have Uc4 := U4.cell; clear Uc3; have S4 := S3.below T4; have Sc4 := S4.cell; clear Sc3; have x4 := x3.below T4; have y4 := y3.below T4; have b4 := b3.below T4; have R4 := below_then R3 T4)
    | (go_at_call 5; ((with_reducible refine (cr w4 C1 e1 f1 C2 e2 f2 v4 z4).mono ?_); rintro e u5 ⟨D1, g1, h1, D2, g2, h2, rfl, o3, o4, hB5⟩); (obtain ⟨w5, hw5, V5, kI5, hkI5, I5⟩ := nw1 u5 #[.int .u8 0, .int .u16 0, .bool false, .int .u8 7, .int .u8 1, .int .u32 1, .int .u32 2, .slice D1 g1 h1, .slice D2 g2 h2] 26); have Ic5 := I5.cell; have T5 := below_then hB5 V5; have s5 := (o4).below V5; have P5 := P4.below T5; have Pc5 := P5.cell; clear Pc4; have U5 := U4.below T5; have Uc5 := U5.cell; clear Uc4; have S5 := S4.below T5; have Sc5 := S5.cell; clear Sc4; have O5 := O4.below T5; have Oc5 := O5.cell; clear Oc4; have x5 := x4.below T5; have y5 := y4.below T5; have b5 := b4.below T5; have v5 := v4.below T5; have z5 := z4.below T5; have R5 := below_then R4 T5)
    | (go_at_call 12; ((with_reducible refine (cp w5 D1 g1 h1 D2 g2 h2 s5).mono ?_); rintro e u6 ⟨⟨DA, dn, dc, rfl, od, hB6⟩⟩); (obtain ⟨w6, hw6, V6, kM6, hkM6, M6⟩ := nw1 u6 #[.int .u8 (m).ty, .int .u8 (m).code, .int .u32 (m).rest, .slice DA dn dc] 42); have Mc6 := M6.cell; have T6 := below_then hB6 V6; have d6 := (od.bs).below V6; have P6 := P5.below T6; have Pc6 := P6.cell; clear Pc5; have U6 := U5.below T6; have Uc6 := U6.cell; clear Uc5; have S6 := S5.below T6; have Sc6 := S6.cell; clear Sc5; have O6 := O5.below T6; have Oc6 := O6.cell; clear Oc5; have I6 := I5.below T6; have Ic6 := I6.cell; clear Ic5; have x6 := x5.below T6; have y6 := y5.below T6; have b6 := b5.below T6; have v6 := v5.below T6; have z6 := z5.below T6; have s6 := s5.below T6; have R6 := below_then R5 T6)
    | (go_at_call 13; ((with_reducible refine (cd w6 DA dn dc d6).mono ?_); rintro e u7 ⟨F1, i1, j1, F2, i2, j2, rfl, o5, o6, hB7⟩); (obtain ⟨w7, hw7, V7, kG7, hkG7, G7⟩ := nw1 u7 #[.int .u8 (r).tos, .int .u16 (r).id, .bool (r).keep, .int .u8 (r).ttl, .int .u8 (r).proto, .int .u32 (r).src, .int .u32 (r).dst, .slice F1 i1 j1, .slice F2 i2 j2] 26); have Gc7 := G7.cell; have T7 := below_then hB7 V7; have g7 := (o6).below V7; have P7 := P6.below T7; have Pc7 := P7.cell; clear Pc6; have U7 := U6.below T7; have Uc7 := U7.cell; clear Uc6; have S7 := S6.below T7; have Sc7 := S7.cell; clear Sc6; have O7 := O6.below T7; have Oc7 := O7.cell; clear Oc6; have I7 := I6.below T7; have Ic7 := I7.cell; clear Ic6; have M7 := M6.below T7; have Mc7 := M7.cell; clear Mc6; have x7 := x6.below T7; have y7 := y6.below T7; have b7 := b6.below T7; have v7 := v6.below T7; have z7 := z6.below T7; have s7 := s6.below T7; have d7 := d6.below T7; have R7 := below_then R6 T7)
    | (go_at_call 14; ((with_reducible refine (cw w7 x7 y7).mono ?_); rintro e u8 ⟨⟨G1, a1, b1, G2, a2, b2, rfl, o7, o8, hB8⟩⟩); (obtain ⟨w8, hw8, V8, kH8, hkH8, H8⟩ := nw1 u8 #[.int .u8 (q).tos, .int .u16 (q).id, .bool (q).keep, .int .u8 (q).ttl, .int .u8 (q).proto, .int .u32 (q).src, .int .u32 (q).dst, .slice G1 a1 b1, .slice G2 a2 b2] 26); have Hc8 := H8.cell; have T8 := below_then hB8 V8; have h8 := (o8.bs).below V8; have P8 := P7.below T8; have Pc8 := P8.cell; clear Pc7; have U8 := U7.below T8; have Uc8 := U8.cell; clear Uc7; have S8 := S7.below T8; have Sc8 := S8.cell; clear Sc7; have O8 := O7.below T8; have Oc8 := O8.cell; clear Oc7; have I8 := I7.below T8; have Ic8 := I8.cell; clear Ic7; have M8 := M7.below T8; have Mc8 := M8.cell; clear Mc7; have G8 := G7.below T8; have Gc8 := G8.cell; clear Gc7; have x8 := x7.below T8; have y8 := y7.below T8; have b8 := b7.below T8; have v8 := v7.below T8; have z8 := z7.below T8; have s8 := s7.below T8; have d8 := d7.below T8; have g8 := g7.below T8; have R8 := below_then R7 T8)
    | (go_at_call 7; ((with_reducible refine (liveU_any w8).mono ?_); rintro e w9 ⟨rfl, hB9⟩); have P9 := P8.below hB9; have Pc9 := P9.cell; clear Pc8; have U9 := U8.below hB9; have Uc9 := U9.cell; clear Uc8; have S9 := S8.below hB9; have Sc9 := S9.cell; clear Sc8; have O9 := O8.below hB9; have Oc9 := O9.cell; clear Oc8; have I9 := I8.below hB9; have Ic9 := I9.cell; clear Ic8; have M9 := M8.below hB9; have Mc9 := M9.cell; clear Mc8; have G9 := G8.below hB9; have Gc9 := G9.cell; clear Gc8; have H9 := H8.below hB9; have Hc9 := H9.cell; clear Hc8; have x9 := x8.below hB9; have y9 := y8.below hB9; have b9 := b8.below hB9; have v9 := v8.below hB9; have z9 := z8.below hB9; have s9 := s8.below hB9; have d9 := d8.below hB9; have g9 := g8.below hB9; have h9 := h8.below hB9; have R9 := below_then R8 hB9)
    | (go_at_call 15; ((with_reducible refine (ca w9 F1 i1 j1 F2 i2 j2 G1 a1 b1 G2 a2 b2 g9 h9).mono ?_); rintro e w10 ⟨rfl, hB10⟩); have P10 := P9.below hB10; have Pc10 := P10.cell; clear Pc9; have U10 := U9.below hB10; have Uc10 := U10.cell; clear Uc9; have S10 := S9.below hB10; have Sc10 := S10.cell; clear Sc9; have O10 := O9.below hB10; have Oc10 := O10.cell; clear Oc9; have I10 := I9.below hB10; have Ic10 := I10.cell; clear Ic9; have M10 := M9.below hB10; have Mc10 := M10.cell; clear Mc9; have G10 := G9.below hB10; have Gc10 := G10.cell; clear Gc9; have H10 := H9.below hB10; have Hc10 := H10.cell; clear Hc9; have x10 := x9.below hB10; have y10 := y9.below hB10; have b10 := b9.below hB10; have v10 := v9.below hB10; have z10 := z9.below hB10; have s10 := s9.below hB10; have d10 := d9.below hB10; have g10 := g9.below hB10; have h10 := h9.below hB10; have R10 := below_then R9 hB10))
  go_ret
  exact ⟨rfl, R10⟩
theorem mi_g2 (p : Pkt) (t : Tup) (A1 : Option Addr) (n1 c1 : Nat) (A2 : Option Addr) (n2 c2 : Nat) (w : World) (k1 : Bs w A1 n1 c1 p.opt) (k2 : Bs w A2 n2 c2 p.dat) (T : Tup) (co : ∀ W, Bs W A2 n2 c2 p.dat → Calls Tryz.prog 9 #[(.agg #[.int .u8 (p).tos, .int .u16 (p).id, .bool (p).keep, .int .u8 (p).ttl, .int .u8 (p).proto, .int .u32 (p).src, .int .u32 (p).dst, .slice A1 n1 c1, .slice A2 n2 c2])] W (TtPost W T 0)) (L : List UInt8) (N : Nat) (cb : ∀ W, Bs W A1 n1 c1 p.opt → Bs W A2 n2 c2 p.dat → Calls Tryz.prog 10 #[(.agg #[.int .u8 (p).tos, .int .u16 (p).id, .bool (p).keep, .int .u8 (p).ttl, .int .u8 (p).proto, .int .u32 (p).src, .int .u32 (p).dst, .slice A1 n1 c1, .slice A2 n2 c2])] W fun e w' => ∃ B c, e = .returned (.tuple #[.slice B N c, .int .i64 0]) ∧ Bs w' B N c L ∧ Below W.heap.size W w') (hN : (N : Int) ≤ 60000) (h0 : (t.proto != T.proto) = false) (h1 : (t.proto == 1) = true) (h2 : (t.sp == 0) = false) (Y V : List UInt8) (m : Msg) (r q : Pkt)
    (ci : ∀ W B c, Bs W B N c L → Calls Tryz.prog 11 #[.agg #[.int .u8 0, .int .u16 0, .bool false, .int .u8 7, .int .u8 0, .int .u32 9, .int .u32 8, .slice none 0 0, .slice none 0 0], .agg #[.int .u8 3, .int .u8 0, .int .u32 0, .slice B N c]] W fun e w' => ∃ C1 e1 f1 C2 e2 f2, e = .returned (.tuple #[.agg #[.int .u8 0, .int .u16 0, .bool false, .int .u8 7, .int .u8 1, .int .u32 9, .int .u32 8, .slice C1 e1 f1, .slice C2 e2 f2], .int .i64 0]) ∧ Bs w' C1 e1 f1 [] ∧ Bs w' C2 e2 f2 Y ∧ Below W.heap.size W w')
    (cr : ∀ W C1 e1 f1 C2 e2 f2, Bs W C1 e1 f1 [] → Bs W C2 e2 f2 Y → Calls Tryz.prog 5 #[.agg #[.int .u8 0, .int .u16 0, .bool false, .int .u8 7, .int .u8 1, .int .u32 9, .int .u32 8, .slice C1 e1 f1, .slice C2 e2 f2], .int .u32 1, .int .u32 2, (.agg #[.int .u8 (t).proto, .int .u32 (t).src, .int .u32 (t).dst, .int .u16 (t).sp, .int .u16 (t).dp])] W fun e w' => ∃ D1 g1 h1 D2 g2 h2, e = .returned (.tuple #[.agg #[.int .u8 0, .int .u16 0, .bool false, .int .u8 7, .int .u8 1, .int .u32 1, .int .u32 2, .slice D1 g1 h1, .slice D2 g2 h2], .int .i64 0]) ∧ Bs w' D1 g1 h1 [] ∧ Bs w' D2 g2 h2 V ∧ Below W.heap.size W w')
    (cp : ∀ W D1 g1 h1 D2 g2 h2, Bs W D2 g2 h2 V → Calls Tryz.prog 12 #[.agg #[.int .u8 0, .int .u16 0, .bool false, .int .u8 7, .int .u8 1, .int .u32 1, .int .u32 2, .slice D1 g1 h1, .slice D2 g2 h2]] W (MsPost W m 0))
    (cd : ∀ W B b1 b2, Bs W B b1 b2 m.dat → Calls Tryz.prog 13 #[.slice B b1 b2] W fun e w' => ∃ F1 i1 j1 F2 i2 j2, e = .returned (.tuple #[(.agg #[.int .u8 (r).tos, .int .u16 (r).id, .bool (r).keep, .int .u8 (r).ttl, .int .u8 (r).proto, .int .u32 (r).src, .int .u32 (r).dst, .slice F1 i1 j1, .slice F2 i2 j2]), .int .i64 0]) ∧ Bs w' F1 i1 j1 r.opt ∧ Bs w' F2 i2 j2 r.dat ∧ Below W.heap.size W w')
    (cw : ∀ W, Bs W A1 n1 c1 p.opt → Bs W A2 n2 c2 p.dat → Calls Tryz.prog 14 #[(.agg #[.int .u8 (p).tos, .int .u16 (p).id, .bool (p).keep, .int .u8 (p).ttl, .int .u8 (p).proto, .int .u32 (p).src, .int .u32 (p).dst, .slice A1 n1 c1, .slice A2 n2 c2]), (.agg #[.int .u8 (t).proto, .int .u32 (t).src, .int .u32 (t).dst, .int .u16 (t).sp, .int .u16 (t).dp])] W (WiPost W q 0))
    (ca : ∀ W F1 i1 j1 F2 i2 j2 G1 a1 b1 G2 a2 b2, Bs W F2 i2 j2 r.dat → Bs W G2 a2 b2 q.dat → Calls Tryz.prog 15 #[(.agg #[.int .u8 (r).tos, .int .u16 (r).id, .bool (r).keep, .int .u8 (r).ttl, .int .u8 (r).proto, .int .u32 (r).src, .int .u32 (r).dst, .slice F1 i1 j1, .slice F2 i2 j2]), (.agg #[.int .u8 (q).tos, .int .u16 (q).id, .bool (q).keep, .int .u8 (q).ttl, .int .u8 (q).proto, .int .u32 (q).src, .int .u32 (q).dst, .slice G1 a1 b1, .slice G2 a2 b2])] W fun e w' => e = .returned (.bool true) ∧ Below W.heap.size W w') : Calls Tryz.prog 4 #[(.agg #[.int .u8 (p).tos, .int .u16 (p).id, .bool (p).keep, .int .u8 (p).ttl, .int .u8 (p).proto, .int .u32 (p).src, .int .u32 (p).dst, .slice A1 n1 c1, .slice A2 n2 c2]), (.agg #[.int .u8 (t).proto, .int .u32 (t).src, .int .u32 (t).dst, .int .u16 (t).sp, .int .u16 (t).dp])] w fun e w' => e = .returned (.bool true) ∧ Below w.heap.size w w' := by
  obtain ⟨k, hk, w1, hw1, P1, U1, R1⟩ := nwI2 w #[.int .u8 (p).tos, .int .u16 (p).id, .bool (p).keep, .int .u8 (p).ttl, .int .u8 (p).proto, .int .u32 (p).src, .int .u32 (p).dst, .slice A1 n1 c1, .slice A2 n2 c2] 26 #[.int .u8 (t).proto, .int .u32 (t).src, .int .u32 (t).dst, .int .u16 (t).sp, .int .u16 (t).dp] 29
  have Pc1 := P1.cell
  have Uc1 := U1.cell
  have Pl1 := P1.lt
  have Ul1 := U1.lt
  have x1 := (k1).below R1
  have y1 := (k2).below R1
  go_enter Tryz.func4, Tryz.ntmps4
  go_wp2_with (first
    | (go_at_call 9; ((with_reducible refine (co w1 y1).mono ?_); rintro e u2 ⟨⟨rfl, hB2⟩⟩); (obtain ⟨w2, hw2, V2, kS2, hkS2, S2⟩ := nw1 u2 #[.int .u8 (T).proto, .int .u32 (T).src, .int .u32 (T).dst, .int .u16 (T).sp, .int .u16 (T).dp] 29); have Sc2 := S2.cell; have T2 := below_then hB2 V2; have P2 := P1.below T2; have Pc2 := P2.cell; clear Pc1; have U2 := U1.below T2; have Uc2 := U2.cell; clear Uc1; have x2 := x1.below T2; have y2 := y1.below T2; have R2 := below_then R1 T2)
    | (go_at_call 10; ((with_reducible refine (cb w2 x2 y2).mono ?_); rintro e w3 ⟨B, c, rfl, z, hB3⟩); have b3 := z; have P3 := P2.below hB3; have Pc3 := P3.cell; clear Pc2; have U3 := U2.below hB3; have Uc3 := U3.cell; clear Uc2; have S3 := S2.below hB3; have Sc3 := S3.cell; clear Sc2; have x3 := x2.below hB3; have y3 := y2.below hB3; have R3 := below_then R2 hB3)
    | (go_at_call 11; ((with_reducible refine (ci w3 B c b3).mono ?_); rintro e u4 ⟨C1, e1, f1, C2, e2, f2, rfl, o1, o2, hB4⟩); (obtain ⟨w4, hw4, V4, kO4, hkO4, O4⟩ := nw1 u4 #[.int .u8 0, .int .u16 0, .bool false, .int .u8 7, .int .u8 1, .int .u32 9, .int .u32 8, .slice C1 e1 f1, .slice C2 e2 f2] 26); have Oc4 := O4.cell; have T4 := below_then hB4 V4; have v4 := (o1).below V4; have z4 := (o2).below V4; have P4 := P3.below T4; have Pc4 := P4.cell; clear Pc3; have U4 := U3.below T4; have Uc4 := U4.cell; clear Uc3; have S4 := S3.below T4; have Sc4 := S4.cell; clear Sc3; have x4 := x3.below T4; have y4 := y3.below T4; have b4 := b3.below T4; have R4 := below_then R3 T4)
    | (go_at_call 5; ((with_reducible refine (cr w4 C1 e1 f1 C2 e2 f2 v4 z4).mono ?_); rintro e u5 ⟨D1, g1, h1, D2, g2, h2, rfl, o3, o4, hB5⟩); (obtain ⟨w5, hw5, V5, kI5, hkI5, I5⟩ := nw1 u5 #[.int .u8 0, .int .u16 0, .bool false, .int .u8 7, .int .u8 1, .int .u32 1, .int .u32 2, .slice D1 g1 h1, .slice D2 g2 h2] 26); have Ic5 := I5.cell; have T5 := below_then hB5 V5; have s5 := (o4).below V5; have P5 := P4.below T5; have Pc5 := P5.cell; clear Pc4; have U5 := U4.below T5; have Uc5 := U5.cell; clear Uc4; have S5 := S4.below T5; have Sc5 := S5.cell; clear Sc4; have O5 := O4.below T5; have Oc5 := O5.cell; clear Oc4; have x5 := x4.below T5; have y5 := y4.below T5; have b5 := b4.below T5; have v5 := v4.below T5; have z5 := z4.below T5; have R5 := below_then R4 T5)
    | (go_at_call 12; ((with_reducible refine (cp w5 D1 g1 h1 D2 g2 h2 s5).mono ?_); rintro e u6 ⟨⟨DA, dn, dc, rfl, od, hB6⟩⟩); (obtain ⟨w6, hw6, V6, kM6, hkM6, M6⟩ := nw1 u6 #[.int .u8 (m).ty, .int .u8 (m).code, .int .u32 (m).rest, .slice DA dn dc] 42); have Mc6 := M6.cell; have T6 := below_then hB6 V6; have d6 := (od.bs).below V6; have P6 := P5.below T6; have Pc6 := P6.cell; clear Pc5; have U6 := U5.below T6; have Uc6 := U6.cell; clear Uc5; have S6 := S5.below T6; have Sc6 := S6.cell; clear Sc5; have O6 := O5.below T6; have Oc6 := O6.cell; clear Oc5; have I6 := I5.below T6; have Ic6 := I6.cell; clear Ic5; have x6 := x5.below T6; have y6 := y5.below T6; have b6 := b5.below T6; have v6 := v5.below T6; have z6 := z5.below T6; have s6 := s5.below T6; have R6 := below_then R5 T6)
    | (go_at_call 13; ((with_reducible refine (cd w6 DA dn dc d6).mono ?_); rintro e u7 ⟨F1, i1, j1, F2, i2, j2, rfl, o5, o6, hB7⟩); (obtain ⟨w7, hw7, V7, kG7, hkG7, G7⟩ := nw1 u7 #[.int .u8 (r).tos, .int .u16 (r).id, .bool (r).keep, .int .u8 (r).ttl, .int .u8 (r).proto, .int .u32 (r).src, .int .u32 (r).dst, .slice F1 i1 j1, .slice F2 i2 j2] 26); have Gc7 := G7.cell; have T7 := below_then hB7 V7; have g7 := (o6).below V7; have P7 := P6.below T7; have Pc7 := P7.cell; clear Pc6; have U7 := U6.below T7; have Uc7 := U7.cell; clear Uc6; have S7 := S6.below T7; have Sc7 := S7.cell; clear Sc6; have O7 := O6.below T7; have Oc7 := O7.cell; clear Oc6; have I7 := I6.below T7; have Ic7 := I7.cell; clear Ic6; have M7 := M6.below T7; have Mc7 := M7.cell; clear Mc6; have x7 := x6.below T7; have y7 := y6.below T7; have b7 := b6.below T7; have v7 := v6.below T7; have z7 := z6.below T7; have s7 := s6.below T7; have d7 := d6.below T7; have R7 := below_then R6 T7)
    | (go_at_call 14; ((with_reducible refine (cw w7 x7 y7).mono ?_); rintro e u8 ⟨⟨G1, a1, b1, G2, a2, b2, rfl, o7, o8, hB8⟩⟩); (obtain ⟨w8, hw8, V8, kH8, hkH8, H8⟩ := nw1 u8 #[.int .u8 (q).tos, .int .u16 (q).id, .bool (q).keep, .int .u8 (q).ttl, .int .u8 (q).proto, .int .u32 (q).src, .int .u32 (q).dst, .slice G1 a1 b1, .slice G2 a2 b2] 26); have Hc8 := H8.cell; have T8 := below_then hB8 V8; have h8 := (o8.bs).below V8; have P8 := P7.below T8; have Pc8 := P8.cell; clear Pc7; have U8 := U7.below T8; have Uc8 := U8.cell; clear Uc7; have S8 := S7.below T8; have Sc8 := S8.cell; clear Sc7; have O8 := O7.below T8; have Oc8 := O8.cell; clear Oc7; have I8 := I7.below T8; have Ic8 := I8.cell; clear Ic7; have M8 := M7.below T8; have Mc8 := M8.cell; clear Mc7; have G8 := G7.below T8; have Gc8 := G8.cell; clear Gc7; have x8 := x7.below T8; have y8 := y7.below T8; have b8 := b7.below T8; have v8 := v7.below T8; have z8 := z7.below T8; have s8 := s7.below T8; have d8 := d7.below T8; have g8 := g7.below T8; have R8 := below_then R7 T8)
    | (go_at_call 7; ((with_reducible refine (liveU_any w8).mono ?_); rintro e w9 ⟨rfl, hB9⟩); have P9 := P8.below hB9; have Pc9 := P9.cell; clear Pc8; have U9 := U8.below hB9; have Uc9 := U9.cell; clear Uc8; have S9 := S8.below hB9; have Sc9 := S9.cell; clear Sc8; have O9 := O8.below hB9; have Oc9 := O9.cell; clear Oc8; have I9 := I8.below hB9; have Ic9 := I9.cell; clear Ic8; have M9 := M8.below hB9; have Mc9 := M9.cell; clear Mc8; have G9 := G8.below hB9; have Gc9 := G9.cell; clear Gc8; have H9 := H8.below hB9; have Hc9 := H9.cell; clear Hc8; have x9 := x8.below hB9; have y9 := y8.below hB9; have b9 := b8.below hB9; have v9 := v8.below hB9; have z9 := z8.below hB9; have s9 := s8.below hB9; have d9 := d8.below hB9; have g9 := g8.below hB9; have h9 := h8.below hB9; have R9 := below_then R8 hB9)
    | (go_at_call 15; ((with_reducible refine (ca w9 F1 i1 j1 F2 i2 j2 G1 a1 b1 G2 a2 b2 g9 h9).mono ?_); rintro e w10 ⟨rfl, hB10⟩); have P10 := P9.below hB10; have Pc10 := P10.cell; clear Pc9; have U10 := U9.below hB10; have Uc10 := U10.cell; clear Uc9; have S10 := S9.below hB10; have Sc10 := S10.cell; clear Sc9; have O10 := O9.below hB10; have Oc10 := O10.cell; clear Oc9; have I10 := I9.below hB10; have Ic10 := I10.cell; clear Ic9; have M10 := M9.below hB10; have Mc10 := M10.cell; clear Mc9; have G10 := G9.below hB10; have Gc10 := G10.cell; clear Gc9; have H10 := H9.below hB10; have Hc10 := H10.cell; clear Hc9; have x10 := x9.below hB10; have y10 := y9.below hB10; have b10 := b9.below hB10; have v10 := v9.below hB10; have z10 := z9.below hB10; have s10 := s9.below hB10; have d10 := d9.below hB10; have g10 := g9.below hB10; have h10 := h9.below hB10; have R10 := below_then R9 hB10))
  go_ret
  exact ⟨rfl, R10⟩
theorem mangleInner_walk (w : World) (p : Pkt) (hp : p.Ok) (A1 : Option Addr) (n1 c1 : Nat) (A2 : Option Addr) (n2 c2 : Nat) (k1 : Bs w A1 n1 c1 p.opt) (k2 : Bs w A2 n2 c2 p.dat) (z1 : n1 ≤ 1048576) (z3 : n2 ≤ 1048576) (t : Tup) (ht : t.Ok) :
    Calls Tryz.prog 4 #[(.agg #[.int .u8 (p).tos, .int .u16 (p).id, .bool (p).keep, .int .u8 (p).ttl, .int .u8 (p).proto, .int .u32 (p).src, .int .u32 (p).dst, .slice A1 n1 c1, .slice A2 n2 c2]), (.agg #[.int .u8 (t).proto, .int .u32 (t).src, .int .u32 (t).dst, .int .u16 (t).sp, .int .u16 (t).dp])] w fun e w' => e = .returned (.bool true) ∧ Below w.heap.size w w' := by
  have z2 : n2 ≤ 17592186044400 := by omega
  have co := fun W k => rof_any p hp A1 n1 c1 A2 n2 c2 W k z2
  have cb : ∀ W, Bs W A1 n1 c1 p.opt → Bs W A2 n2 c2 p.dat → Calls Tryz.prog 10 #[(.agg #[.int .u8 (p).tos, .int .u16 (p).id, .bool (p).keep, .int .u8 (p).ttl, .int .u8 (p).proto, .int .u32 (p).src, .int .u32 (p).dst, .slice A1 n1 c1, .slice A2 n2 c2])] W fun e w' => ∃ B c, e = .returned (.tuple #[.slice B (bdL p).length c, .int .i64 (bdE p)]) ∧ Bs w' B (bdL p).length c (bdL p) ∧ Below W.heap.size W w' := fun W a b => by
    refine (rbd_any p hp A1 n1 c1 A2 n2 c2 W a b).mono ?_
    rintro e w' ⟨A, n, c, rfl, o, hB⟩
    have e := o.len
    subst e
    exact ⟨A, c, rfl, o.bs, hB⟩
  by_cases h1 : ofE p = 0
  case neg => exact mi_e1 p t A1 n1 c1 A2 n2 c2 w k1 k2 _ _ _ (by simpa using h1) co _ _ cb
  rw [h1] at co
  by_cases h2 : bdE p = 0
  case neg => exact mi_e2 p t A1 n1 c1 A2 n2 c2 w k1 k2 _ _ (by simpa using h2) co _ _ cb
  rw [h2] at cb
  by_cases h3 : (bdL p).length ≤ 60000
  case neg => exact mi_e3 p t A1 n1 c1 A2 n2 c2 w k1 k2 _ co _ _ cb (by omega)
  have h3' : ((bdL p).length : Int) ≤ 60000 := by omega
  by_cases h4 : t.proto = (ofT p).proto
  case neg => exact mi_e4 p t A1 n1 c1 A2 n2 c2 w k1 k2 _ co _ _ cb h3' (by simpa using h4)
  have h4' : (t.proto != (ofT p).proto) = false := by simp [h4]
  have htp : t.proto = p.proto := by
    rw [h4]
    rcases own_ways h1 with ⟨-, -, e⟩ | ⟨-, -, e⟩ | ⟨-, -, -, e⟩ | ⟨-, -, e⟩ <;> rw [e]
  by_cases h5 : t.proto = 1 ∧ t.sp = 0
  · exact mi_e5 p t A1 n1 c1 A2 n2 c2 w k1 k2 _ co _ _ cb h3' h4' (by simp [h5.1]) (by simp [h5.2])
  have hsp : t.proto = 1 → t.sp ≠ 0 := fun a b => h5 ⟨a, b⟩
  have I := inn_all hp ht h1 h2 h3 htp hsp
  obtain ⟨V, hV⟩ := I.fm
  have ln := I.ln
  have ci : ∀ W B c, Bs W B (bdL p).length c (bdL p) → Calls Tryz.prog 11 #[.agg #[.int .u8 0, .int .u16 0, .bool false, .int .u8 7, .int .u8 0, .int .u32 9, .int .u32 8, .slice none 0 0, .slice none 0 0], .agg #[.int .u8 3, .int .u8 0, .int .u32 0, .slice B (bdL p).length c]] W fun e w' => ∃ C1 e1 f1 C2 e2 f2, e = .returned (.tuple #[.agg #[.int .u8 0, .int .u16 0, .bool false, .int .u8 7, .int .u8 1, .int .u32 9, .int .u32 8, .slice C1 e1 f1, .slice C2 e2 f2], .int .i64 0]) ∧ Bs w' C1 e1 f1 [] ∧ Bs w' C2 e2 f2 (mS (m9 p)) ∧ Below W.heap.size W w' := fun W B c k => by
    have h := rbicmp_any z9 none 0 0 none 0 0 (m9 p) (m9_ok p) B _ c W (Bs.none_ _) k
    rw [I.out, I.bi] at h
    refine h.mono ?_
    rintro e w' ⟨C1, e1, f1, C2, e2, f2, rfl, o1, o2, hB⟩
    exact ⟨C1, e1, f1, C2, e2, f2, rfl, o1.bs, o2.bs, hB⟩
  have cr : ∀ W C1 e1 f1 C2 e2 f2, Bs W C1 e1 f1 [] → Bs W C2 e2 f2 (mS (m9 p)) → Calls Tryz.prog 5 #[.agg #[.int .u8 0, .int .u16 0, .bool false, .int .u8 7, .int .u8 1, .int .u32 9, .int .u32 8, .slice C1 e1 f1, .slice C2 e2 f2], .int .u32 1, .int .u32 2, (.agg #[.int .u8 (t).proto, .int .u32 (t).src, .int .u32 (t).dst, .int .u16 (t).sp, .int .u16 (t).dp])] W fun e w' => ∃ D1 g1 h1 D2 g2 h2, e = .returned (.tuple #[.agg #[.int .u8 0, .int .u16 0, .bool false, .int .u8 7, .int .u8 1, .int .u32 1, .int .u32 2, .slice D1 g1 h1, .slice D2 g2 h2], .int .i64 0]) ∧ Bs w' D1 g1 h1 [] ∧ Bs w' D2 g2 h2 V ∧ Below W.heap.size W w' := fun W C1 e1 f1 C2 e2 f2 a b => by
    have hl := b.len
    have hl2 : (mS (m9 p)).length ≤ 65535 := ln.2.2.1
    have h := requote_any (o9 p) C1 e1 f1 C2 e2 f2 W a b (by omega) 1 2 t ht
    rw [I.rq, hV] at h
    refine h.mono ?_
    rintro e w' ⟨D1, g1, h1, D2, g2, h2, rfl, o1, o2, hB⟩
    exact ⟨D1, g1, h1, D2, g2, h2, rfl, o1.bs, o2.bs, hB⟩
  have cp : ∀ W D1 g1 h1 D2 g2 h2, Bs W D2 g2 h2 V → Calls Tryz.prog 12 #[.agg #[.int .u8 0, .int .u16 0, .bool false, .int .u8 7, .int .u8 1, .int .u32 1, .int .u32 2, .slice D1 g1 h1, .slice D2 g2 h2]] W (MsPost W (icM (rqP (o9 p) 1 2 t)) 0) := fun W D1 g1 h1 D2 g2 h2 k => by
    have hl := k.len
    have hl2 := ln.2.1
    have hie := I.ie
    rw [hV] at hl2 hie ⊢
    have h := ricmp_any ⟨0, 0, false, 7, 1, 1, 2, [], V⟩ D1 g1 h1 D2 g2 h2 W k (by simp only at hl2; omega)
    rw [hie] at h
    exact h
  have cd := fun W B b1 b2 k => rParse_v I.rk I.rd B b1 b2 W k
  have cw := fun W a b => rrewrite_good p hp t ht A1 n1 c1 A2 n2 c2 W a b z2 I.rw
  rw [I.rw] at cw
  have hq : (rwP p t).Ok := by
    obtain ⟨d, hf, -⟩ := (rw_back hp ht I.rw).form
    rw [hf]
    exact ⟨hp.1, hp.2, hp.3, hp.4, ht.src, ht.dst⟩
  have ca := fun W F1 i1 j1 F2 i2 j2 G1 a1 b1 G2 a2 b2 k j => alike_any (inP p t) (rwP p t) (inP_ok hp ht) hq F1 i1 j1 F2 i2 j2 G1 a1 b1 G2 a2 b2 W k j (by have := Bs.len k; have := ln.2.2.2.2; omega) (by have := Bs.len j; have := ln.2.2.2.1; omega) I.al I.oe
  by_cases h6 : t.proto = 1
  · exact mi_g2 p t A1 n1 c1 A2 n2 c2 w k1 k2 _ co _ _ cb h3' h4' (by simp [h6]) (by simpa using hsp h6) _ _ _ _ _ ci cr cp cd cw ca
  · exact mi_g1 p t A1 n1 c1 A2 n2 c2 w k1 k2 _ co _ _ cb h3' h4' (by simpa using h6) _ _ _ _ _ ci cr cp cd cw ca
end Go.Proofs.YtjhpmeagopdaiaaGreat
namespace Go.Proofs.YtjhpmeagopdaiaaGreat
open Go.ChangeShapes Go.WideShapes Go.ChangeAt Go.RowKit
set_option linter.unusedVariables false
set_option linter.unusedSimpArgs false
theorem own_knob : ownKnob Tryz.prog.godebug = none := by kernel_rfl
theorem laid_out : laidOutB Tryz.prog = true := by kernel_rfl
section
variable {H : Type} {enc : TypeId × Value → H} {P : Program} {w : World} {base : Nat} {held : Bool} {spare : Nat → Bool}
theorem open_bs {t e : TypeId} {fuel : Nat} {v : Value} {x : DataW H × List MemPlace} (ht : P.underlying t = some (.slice e)) (he : P.underlying e = some (.int .u8)) (hc : P.cellsOf e = 1)
    (h : DataW.trod enc P w base spare held fuel t [v] = some x) :
    ∃ A n c l, v = .slice A n c ∧ (n ≤ 200000000000000 → Bs w A n c l) ∧ ((x.1 = .nil ∧ n = 0) ∨ ∃ es sp, x.1 = .slice es sp ∧ es.length = n) := by
  rcases open_ints ht he hc h with ⟨hcs, rfl⟩ | ⟨a, len, cap, zs, hcs, _, hl, hm, hz, rfl, hcell, hwz⟩
  · simp only [List.cons.injEq, and_true] at hcs
    subst hcs
    exact ⟨none, 0, 0, [], rfl, fun _ => Bs.none_ w, .inl ⟨rfl, rfl⟩⟩
  · simp only [List.cons.injEq, and_true] at hcs
    subst hcs
    have hzl : len ≤ zs.length := by rw [hz]; split <;> omega
    have hlen : ((zs.take len).map ub).length = len := by simp; omega
    refine ⟨some a, len, cap, (zs.take len).map ub, rfl, fun hn => ⟨hlen, hl, hn, (fun h => by cases h), fun h0 => ?_⟩, .inr ⟨_, _, rfl, by simp [lits]; omega⟩⟩
    obtain ⟨b, off, spot⟩ := a
    have hc0 := hcell 0 (by omega)
    have hspot : spot = none := by simpa [Addr.add] using World.cell?_spot hc0
    subst hspot
    refine ⟨b, off, rfl, fun j hj => ?_⟩
    have h1 := hcell j (by omega)
    have ha : (⟨b, off, none⟩ : Addr).add j = ⟨b, off + j, none⟩ := by unfold Addr.add; split <;> simp_all
    rw [ha] at h1
    rw [h1]
    have hb : 0 ≤ zs.getD j 0 ∧ zs.getD j 0 ≤ 255 := by
      have hmem : zs.getD j 0 ∈ zs := by
        rw [List.getD_eq_getElem?_getD, List.getElem?_eq_getElem (by omega)]
        exact List.getElem_mem _
      simpa [Lit.wf, IntKind.min, IntKind.max, IntKind.signed, IntKind.bits] using hwz _ hmem
    have e : zs.getD j 0 = bt ((zs.take len).map ub) j := by
      have hj' : j < zs.length := by omega
      have e1 : zs.getD j 0 = zs[j] := by rw [List.getD_eq_getElem?_getD, List.getElem?_eq_getElem hj']; rfl
      have e2 : ((zs.take len).map ub).getD j 0 = ub zs[j] := by
        rw [List.getD_eq_getElem?_getD, List.getElem?_map, List.getElem?_take, if_pos hj, List.getElem?_eq_getElem hj']
        rfl
      unfold bt
      rw [e2, ub_val, e1]
      rw [e1] at hb
      omega
    rw [e]
theorem args_stay : ∀ {ts : List TypeId} {vs : List Value} {ds : List (DataW H)} {ps : List MemPlace} {W W' : World}, laidOutB P = true → ts.all (fun t => P.readableRec t && decide (t < P.types.size)) = true →
    DataW.TrodAll enc P W 0 (fun _ => true) true ts vs ds ps → Below W.heap.size W W' → DataW.TrodAll enc P W' 0 (fun b => decide (b < W.heap.size)) true ts vs ds ps
  | [], vs, ds, ps, W, W', _, _, h, _ => by
    obtain ⟨rfl, rfl, rfl⟩ := trodAll_nil h
    exact trodAll_mk0
  | t :: ts, vs, ds, ps, W, W', hl, hr, h, hb => by
    simp only [List.all_cons, Bool.and_eq_true, decide_eq_true_eq] at hr
    obtain ⟨v, vs', d, ds', p, q, rfl, rfl, rfl, h1, h2⟩ := trodAll_cons h
    have hlt : ∀ x ∈ p, x.block < W.heap.size := by obtain ⟨m, hm⟩ := h1; exact DataW.trod_lt m _ _ _ hm
    exact trodAll_cons_mk (Below.trod hl hr.1.1 hr.1.2 h1 hb hlt) (args_stay hl (by simpa using hr.2) h2 hb)
theorem law_post {f : Func} {s : ChangeSpec} {W W' : World} {args : Array Value} {ds : List (DataW H)} {before : List MemPlace} {tb : TypeId} (hb' : P.underlying tb = some .bool) (hres : f.resultTypes = #[tb]) (hl : laidOutB P = true)
    (hr : f.params.toList.all (fun t => P.readableRec t && decide (t < P.types.size)) = true) (hvars : s.vars = [])
    (hfn : s.fn H (ds ++ []) = { results := [.lit (.bool true)], args := ds }) (hW : DataW.Whole enc P f.params.toList s.vars false W args.toList ds [] before) (hb : Below W.heap.size W W') :
    s.post enc P f false true false false W args (.bool true) W' := by
  have hW2 := hW
  obtain ⟨p, q, hA, hV, rfl, hfz, hnd⟩ := hW
  rw [hvars] at hV
  obtain ⟨_, rfl⟩ := trodVars_none hV
  refine ⟨_, _, _, [], p, [], hW2, ?_, ?_, ?_, hb.frame _, fun h => by cases h⟩
  · rw [hfn, hres]
    exact trodAll_mk1 (shut_bool hb' _)
  · rw [hfn]
    exact args_stay hl hr hA hb
  · rw [hfn, hvars]
    rfl
end
end Go.Proofs.YtjhpmeagopdaiaaGreat
namespace Go.Proofs.YtjhpmeagopdaiaaGreat
open Go.ChangeShapes Go.WideShapes Go.ChangeAt Go.RowKit Go.Deep
set_option linter.unusedVariables false
set_option linter.unusedSimpArgs false
set_option maxRecDepth 100000
section
variable {H : Type} {enc : TypeId × Value → H} {P : Program} {w : World} {base : Nat} {held : Bool} {spare : Nat → Bool}
theorem open_struct {r : Reach} {b0 : Nat} {t : TypeId} {fs : Array Field} {v : Value} {d : DataW H} {ps : List MemPlace} (hs : P.underlying t = some (.struct fs)) (hone : oneCellFields P fs = true)
    (hv : Value.okWide P w r b0 t v) (h : DataW.Trod enc P w base spare held t v d ps) :
    ∃ (cs : List Value) (xs : List (DataW H × List MemPlace)) (n : Nat), v = .agg cs.toArray ∧ cs.length = P.cellsOf t ∧ d = .agg (xs.map (·.1)) ∧ xs.length = fs.size ∧
      ∀ i f, fs[i]? = some f → DataW.trod enc P w base spare held n f.type ((cs.drop i).take 1) = xs[i]? := by
  obtain ⟨cs, rfl, hsz⟩ := okWide_struct hs hv
  obtain ⟨fuel, hf⟩ := h
  obtain ⟨xs, n, _, hx, hl, hxl, hi⟩ := DataW.trod_struct hs hf
  simp only [Prod.mk.injEq] at hx
  refine ⟨cs.toList, xs, n, by simp, by simpa using hsz, hx.1, hxl, fun i f hfi => ?_⟩
  have h1 := hi i f hfi
  obtain ⟨o, k⟩ := hone_of hone i f hfi
  simpa [Value.cells, o, k] using h1
theorem list9 {α : Type} {l : List α} (h : l.length = 9) : ∃ a b c d e f g i j, l = [a, b, c, d, e, f, g, i, j] := by
  match l, h with
  | [a, b, c, d, e, f, g, i, j], _ => exact ⟨a, b, c, d, e, f, g, i, j, rfl⟩
theorem trod_byte {t : TypeId} {n : Nat} {v : Value} {y : DataW H × List MemPlace} (ht : P.underlying t = some (.int .u8)) (h : DataW.trod enc P w base spare held n t [v] = some y) : ∃ a, v = .int .u8 a ∧ 0 ≤ a ∧ a ≤ 255 := by
  obtain ⟨a, e, -, hw⟩ := DataW.trod_int ht h
  injection e with e
  exact ⟨a, e, by simpa [Lit.wf, IntKind.min, IntKind.max, IntKind.signed, IntKind.bits] using hw⟩
theorem trod_u16 {t : TypeId} {n : Nat} {v : Value} {y : DataW H × List MemPlace} (ht : P.underlying t = some (.int .u16)) (h : DataW.trod enc P w base spare held n t [v] = some y) : ∃ a, v = .int .u16 a ∧ 0 ≤ a ∧ a ≤ 65535 := by
  obtain ⟨a, e, -, hw⟩ := DataW.trod_int ht h
  injection e with e
  exact ⟨a, e, by simpa [Lit.wf, IntKind.min, IntKind.max, IntKind.signed, IntKind.bits] using hw⟩
theorem trod_u32 {t : TypeId} {n : Nat} {v : Value} {y : DataW H × List MemPlace} (ht : P.underlying t = some (.int .u32)) (h : DataW.trod enc P w base spare held n t [v] = some y) : ∃ a, v = .int .u32 a ∧ 0 ≤ a ∧ a ≤ 4294967295 := by
  obtain ⟨a, e, -, hw⟩ := DataW.trod_int ht h
  injection e with e
  exact ⟨a, e, by simpa [Lit.wf, IntKind.min, IntKind.max, IntKind.signed, IntKind.bits] using hw⟩
theorem trod_yes {t : TypeId} {n : Nat} {v : Value} {y : DataW H × List MemPlace} (ht : P.underlying t = some .bool) (h : DataW.trod enc P w base spare held n t [v] = some y) : ∃ b, v = .bool b := by
  obtain ⟨b, e, -⟩ := DataW.trod_bool ht h
  injection e with e
  exact ⟨b, e⟩
end
section
variable {H : Type} {enc : TypeId × Value → H} {w : World} {base : Nat} {held : Bool} {spare : Nat → Bool}
end
end Go.Proofs.YtjhpmeagopdaiaaGreat
namespace Go.Proofs.YtjhpmeagopdaiaaGreat
open Go.ChangeShapes Go.WideShapes Go.ChangeAt Go.RowKit Go.Deep
set_option linter.unusedVariables false
set_option linter.unusedSimpArgs false
section
variable {H : Type} {enc : TypeId × Value → H} {P : Program} {w : World} {base : Nat} {held : Bool} {spare : Nat → Bool}
end
set_option maxRecDepth 100000
section
variable {H : Type} {enc : TypeId × Value → H} {w : World} {base : Nat} {held : Bool} {spare : Nat → Bool}
end
section
variable {H : Type} {enc : TypeId × Value → H} {w : World} {base : Nat} {held : Bool} {spare : Nat → Bool}
theorem list5 {α : Type} {l : List α} (h : l.length = 5) : ∃ a b c d e, l = [a, b, c, d, e] := by
  match l, h with
  | [a, b, c, d, e], _ => exact ⟨a, b, c, d, e, rfl⟩
theorem open_tupU {r : Reach} {b0 : Nat} {v : Value} {d : DataW H} {ps : List MemPlace} (hval : Value.okWide Tryz.prog w r b0 29 v) (hd : DataW.Trod enc Tryz.prog w base spare held 29 v d ps) :
    ∃ (t : Tup), v = (.agg #[.int .u8 (t).proto, .int .u32 (t).src, .int .u32 (t).dst, .int .u16 (t).sp, .int .u16 (t).dp]) ∧ t.Ok := by
  have hu := Tryz.underlying29
  obtain ⟨cs, xs, n, rfl, hcl, rfl, hxl, hi⟩ := open_struct hu (by kernel_rfl) hval hd
  rw [show (Tryz.prog.cellsOf 29) = 5 from by kernel_rfl] at hcl
  obtain ⟨v0, v1, v2, v3, v4, rfl⟩ := list5 hcl
  obtain ⟨y0, y1, y2, y3, y4, rfl⟩ := list5 (by simpa using hxl)
  obtain ⟨a0, rfl, b0l, b0h⟩ := trod_byte (t := 5) Tryz.underlying5 (by simpa using hi 0 _ rfl)
  obtain ⟨a1, rfl, b1l, b1h⟩ := trod_u32 (t := 23) Tryz.underlying23 (by simpa using hi 1 _ rfl)
  obtain ⟨a2, rfl, b2l, b2h⟩ := trod_u32 (t := 23) Tryz.underlying23 (by simpa using hi 2 _ rfl)
  obtain ⟨a3, rfl, b3l, b3h⟩ := trod_u16 (t := 22) Tryz.underlying22 (by simpa using hi 3 _ rfl)
  obtain ⟨a4, rfl, b4l, b4h⟩ := trod_u16 (t := 22) Tryz.underlying22 (by simpa using hi 4 _ rfl)
  exact ⟨⟨a0, a1, a2, a3, a4⟩, rfl, ⟨⟨b0l, b0h⟩, ⟨b1l, b1h⟩, ⟨b2l, b2h⟩, ⟨b3l, b3h⟩, ⟨b4l, b4h⟩⟩⟩
end
end Go.Proofs.YtjhpmeagopdaiaaGreat
namespace Go.Proofs.YtjhpmeagopdaiaaGreat.bulks

theorem one_le {H : Type} (d : DataW H) : 1 ≤ Rows.uptoBulk d := by
  cases d with
  | lit l => cases l <;> simp [Rows.uptoBulk]
  | nil => simp [Rows.uptoBulk]
  | ptr d => simp [Rows.uptoBulk]
  | slice elems spare => simp [Rows.uptoBulk]
  | agg parts => simp [Rows.uptoBulk]
  | iface t d => simp [Rows.uptoBulk]
  | map entries => simp [Rows.uptoBulk]
  | held h => simp [Rows.uptoBulk]

theorem part_le {H : Type} {d : DataW H} {l : List (DataW H)} (h : d ∈ l) : Rows.uptoBulk d ≤ Rows.uptoBulkAll l := by
  induction l with
  | nil => cases h
  | cons x r ih =>
    simp only [Rows.uptoBulkAll]
    cases List.mem_cons.1 h with
    | inl e => subst e; omega
    | inr e => have := ih e; omega

theorem length_le {H : Type} (l : List (DataW H)) : l.length ≤ Rows.uptoBulkAll l := by
  induction l with
  | nil => simp [Rows.uptoBulkAll]
  | cons x r ih => have := one_le x; simp only [Rows.uptoBulkAll, List.length_cons]; omega

theorem slice_le {H : Type} (elems spare : List (DataW H)) : elems.length + spare.length + 1 ≤ Rows.uptoBulk (.slice elems spare) := by
  have h1 := length_le elems
  have h2 := length_le spare
  simp only [Rows.uptoBulk]
  omega
theorem bound {H : Type} {l : List (DataW H)} (hk : Rows.uptoSmall H l = true) : Rows.uptoBulkAll l ≤ 1048576 := by
  simpa [Rows.uptoSmall] using hk

end Go.Proofs.YtjhpmeagopdaiaaGreat.bulks
namespace Go.Proofs.YtjhpmeagopdaiaaGreat
open Go.ChangeShapes Go.WideShapes Go.ChangeAt Go.RowKit Go.Deep
set_option linter.unusedVariables false
set_option linter.unusedSimpArgs false
set_option maxRecDepth 100000
section
variable {H : Type} {enc : TypeId × Value → H} {P : Program} {w : World} {base : Nat} {held : Bool} {spare : Nat → Bool}
theorem trod_bytesU {t e : TypeId} {n N : Nat} {v : Value} {y : DataW H × List MemPlace} (ht : P.underlying t = some (.slice e)) (he : P.underlying e = some (.int .u8)) (hc : P.cellsOf e = 1) (hN : N ≤ 1048576)
    (hb : Rows.uptoBulk y.1 ≤ N) (h : DataW.trod enc P w base spare held n t [v] = some y) : ∃ A n c l, v = .slice A n c ∧ Bs w A n c l ∧ n ≤ N := by
  obtain ⟨A, n, c, l, hv, hbs, hd⟩ := open_bs ht he hc h
  have hn : n ≤ N := by
    rcases hd with ⟨_, h⟩ | ⟨es, sp, hx, hl⟩
    · omega
    · rw [hx] at hb
      have := bulks.slice_le es sp
      omega
  exact ⟨A, n, c, l, hv, hbs (by omega), hn⟩
end
section
variable {H : Type} {enc : TypeId × Value → H} {w : World} {base : Nat} {held : Bool} {spare : Nat → Bool}
theorem open_pktU {r : Reach} {b0 : Nat} {v : Value} {d : DataW H} {ps : List MemPlace} (hval : Value.okWide Tryz.prog w r b0 26 v) (hd : DataW.Trod enc Tryz.prog w base spare held 26 v d ps)
    (hb : Rows.uptoBulk d ≤ 1048576) :
    ∃ (p : Pkt) (A1 : Option Addr) (n1 c1 : Nat) (A2 : Option Addr) (n2 c2 : Nat), v = (.agg #[.int .u8 (p).tos, .int .u16 (p).id, .bool (p).keep, .int .u8 (p).ttl, .int .u8 (p).proto, .int .u32 (p).src, .int .u32 (p).dst, .slice A1 n1 c1, .slice A2 n2 c2]) ∧ p.Ok ∧ Bs w A1 n1 c1 p.opt ∧ Bs w A2 n2 c2 p.dat ∧ n1 ≤ 1048576 ∧ n2 ≤ 1048576 := by
  have hu := Tryz.underlying26
  obtain ⟨cs, xs, n, rfl, hcl, rfl, hxl, hi⟩ := open_struct hu (by kernel_rfl) hval hd
  rw [show (Tryz.prog.cellsOf 26) = 9 from by kernel_rfl] at hcl
  obtain ⟨v0, v1, v2, v3, v4, v5, v6, v7, v8, rfl⟩ := list9 hcl
  obtain ⟨y0, y1, y2, y3, y4, y5, y6, y7, y8, rfl⟩ := list9 (by simpa using hxl)
  obtain ⟨a0, rfl, b0l, b0h⟩ := trod_byte (t := 5) Tryz.underlying5 (by simpa using hi 0 _ rfl)
  obtain ⟨a1, rfl, b1l, b1h⟩ := trod_u16 (t := 22) Tryz.underlying22 (by simpa using hi 1 _ rfl)
  obtain ⟨a2, rfl⟩ := trod_yes (t := 4) Tryz.underlying4 (by simpa using hi 2 _ rfl)
  obtain ⟨a3, rfl, b3l, b3h⟩ := trod_byte (t := 5) Tryz.underlying5 (by simpa using hi 3 _ rfl)
  obtain ⟨a4, rfl, b4l, b4h⟩ := trod_byte (t := 5) Tryz.underlying5 (by simpa using hi 4 _ rfl)
  obtain ⟨a5, rfl, b5l, b5h⟩ := trod_u32 (t := 23) Tryz.underlying23 (by simpa using hi 5 _ rfl)
  obtain ⟨a6, rfl, b6l, b6h⟩ := trod_u32 (t := 23) Tryz.underlying23 (by simpa using hi 6 _ rfl)
  simp only [Rows.uptoBulk] at hb
  have m7 := bulks.part_le (l := [y0, y1, y2, y3, y4, y5, y6, y7, y8].map (·.1)) (d := y7.1) (by simp)
  have m8 := bulks.part_le (l := [y0, y1, y2, y3, y4, y5, y6, y7, y8].map (·.1)) (d := y8.1) (by simp)
  obtain ⟨A1, n1, c1, l1, rfl, k1, z1⟩ := trod_bytesU (t := 24) Tryz.underlying24 Tryz.underlying5 (by kernel_rfl) (Nat.le_refl _) (y := y7) (by omega) (by simpa using hi 7 _ rfl)
  obtain ⟨A2, n2, c2, l2, rfl, k2, z2⟩ := trod_bytesU (t := 24) Tryz.underlying24 Tryz.underlying5 (by kernel_rfl) (Nat.le_refl _) (y := y8) (by omega) (by simpa using hi 8 _ rfl)
  exact ⟨⟨a0, a1, a2, a3, a4, a5, a6, l1, l2⟩, A1, n1, c1, A2, n2, c2, rfl, ⟨⟨b0l, b0h⟩, ⟨b1l, b1h⟩, ⟨b3l, b3h⟩, ⟨b4l, b4h⟩, ⟨b5l, b5h⟩, ⟨b6l, b6h⟩⟩, k1, k2, z1, z2⟩
end
end Go.Proofs.YtjhpmeagopdaiaaGreat

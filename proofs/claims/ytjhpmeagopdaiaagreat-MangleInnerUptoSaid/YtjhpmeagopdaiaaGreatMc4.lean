/- Parts of the proofs of this seat, laid together. -/
import Derived.BigRegion
import Derived.WalkLawsBesides
import Derived.Defers
import Derived.Recover
import Derived.WideLaws
import Derived.RegionTactic
import Derived.Test.YtjhpmeagopdaiaaGreatMc3
namespace Go.Proofs.YtjhpmeagopdaiaaGreat
open Go.RowKit
set_option linter.unusedVariables false
set_option linter.unusedSimpArgs false
set_option maxHeartbeats 8000000
set_option maxRecDepth 100000
theorem store34 {W : World} {r : Nat} {c0 c1 c2 c3 c4 : Value} {t : TypeId} (R : Blk W r #[c0, c1, c2, c3, c4] t) (v3 v4 : Value) :
    ∃ wf, ((W.setCell ⟨r, 3, none⟩ v3).setCell ⟨r, 4, none⟩ v4) = wf ∧ Sto W r wf #[c0, c1, c2, v3, v4] t := by
  have h := ((Sto.nil R).set 3 v3).set 4 v4
  simp only [List.setIfInBounds_toArray, List.set_cons_zero, List.set_cons_succ] at h
  exact ⟨_, rfl, h⟩
theorem store4_ {W : World} {r : Nat} {c0 c1 c2 c3 c4 : Value} {t : TypeId} (R : Blk W r #[c0, c1, c2, c3, c4] t) (v4 : Value) :
    ∃ wf, (W.setCell ⟨r, 4, none⟩ v4) = wf ∧ Sto W r wf #[c0, c1, c2, c3, v4] t := by
  have h := (Sto.nil R).set 4 v4
  simp only [List.setIfInBounds_toArray, List.set_cons_zero, List.set_cons_succ] at h
  exact ⟨_, rfl, h⟩
theorem rof_tcp_ (p : Pkt) (A1 : Option Addr) (n1 c1 : Nat) (A2 : Option Addr) (n2 c2 : Nat) (w : World) (k2 : Bs w A2 n2 c2 p.dat) (hpr : p.proto = 6) (s : Seg) (E : Int)
    (ht : ∀ W, Bs W A2 n2 c2 p.dat → Calls Tryz.prog 32 #[(.agg #[.int .u8 (p).tos, .int .u16 (p).id, .bool (p).keep, .int .u8 (p).ttl, .int .u8 (p).proto, .int .u32 (p).src, .int .u32 (p).dst, .slice A1 n1 c1, .slice A2 n2 c2])] W (TcPost W s E)) :
    Calls Tryz.prog 9 #[(.agg #[.int .u8 (p).tos, .int .u16 (p).id, .bool (p).keep, .int .u8 (p).ttl, .int .u8 (p).proto, .int .u32 (p).src, .int .u32 (p).dst, .slice A1 n1 c1, .slice A2 n2 c2])] w (TtPost w (tuP p s.src s.dst E) E) := by
  have y6 : (p.proto == 6) = true := by rw [hpr]; rfl
  clear hpr
  obtain ⟨k, hk, w1, hw1, P1, Z1, X1, R1⟩ := nwI3 w #[.int .u8 (p).tos, .int .u16 (p).id, .bool (p).keep, .int .u8 (p).ttl, .int .u8 (p).proto, .int .u32 (p).src, .int .u32 (p).dst, .slice A1 n1 c1, .slice A2 n2 c2] 26 #[.int .u8 0, .int .u32 0, .int .u32 0, .int .u16 0, .int .u16 0] 29 #[.int .u8 p.proto, .int .u32 p.src, .int .u32 p.dst, .int .u16 0, .int .u16 0] 29
  have Pc1 := P1.cell
  have Zc1 := Z1.cell
  have Xc1 := X1.cell
  have Pl1 := P1.lt
  have Zl1 := Z1.lt
  have Xl1 := X1.lt
  have x1 := (k2).below R1
  have i3 : w1.setCell ⟨k + 1 + 1, 3, none⟩ (.int .u16 0) = w1 := X1.idle rfl
  have i4 : w1.setCell ⟨k + 1 + 1, 4, none⟩ (.int .u16 0) = w1 := X1.idle rfl
  by_cases h0 : E = 0
  case neg =>
    have h0b : (E != 0) = true := by simpa using h0
    have hz : tuP p s.src s.dst E = zT := by unfold tuP; rw [if_pos h0]
    rw [hz]
    clear h0 hz
    go_enter Tryz.func9, Tryz.ntmps9
    go_wp2_with (go_at_call 32; ((with_reducible refine (ht w1 x1).mono ?_); rintro e u2 ⟨⟨OA, on, oc, DA, dn, dc, rfl, -, -, -, hB2⟩⟩); (obtain ⟨w2, hw2, V2, kS2, hkS2, S2⟩ := nw1 u2 #[.int .u16 (s).src, .int .u16 (s).dst, .int .u32 (s).seq, .int .u32 (s).ack, .int .u8 (s).flags, .int .u16 (s).win, .int .u16 (s).urg, .slice OA on oc, .slice DA dn dc] 60); have Sc2 := S2.cell; have T2 := below_then hB2 V2; have P2 := P1.below T2; have Pc2 := P2.cell; clear Pc1; have Z2 := Z1.below T2; have Zc2 := Z2.cell; clear Zc1; have X2 := X1.below T2; have Xc2 := X2.cell; clear Xc1; have x2 := x1.below T2; have R2 := below_then R1 T2)
    obtain ⟨wf, hwf, Sf⟩ := store5 Z2 (.int .u8 0) (.int .u32 0) (.int .u32 0) (.int .u16 0) (.int .u16 0)
    rw [hwf]
    have pf := Sf.blk.cell
    exact bodyPost_ret (v := .tuple #[(.agg #[.int .u8 (zT).proto, .int .u32 (zT).src, .int .u32 (zT).dst, .int .u16 (zT).sp, .int .u16 (zT).dp]), .int .i64 E]) (by simp [results, Tryz.results9, go_sem, pf, zT]) rfl ⟨⟨rfl, Sf.bel R2 (by omega)⟩⟩
  subst h0
  have hok : tuP p s.src s.dst 0 = ⟨p.proto, p.src, p.dst, s.src, s.dst⟩ := by unfold tuP; rw [if_neg (by simp)]
  rw [hok]
  clear hok
  go_enter Tryz.func9, Tryz.ntmps9
  go_wp2_with (go_at_call 32; ((with_reducible refine (ht w1 x1).mono ?_); rintro e u2 ⟨⟨OA, on, oc, DA, dn, dc, rfl, -, -, -, hB2⟩⟩); (obtain ⟨w2, hw2, V2, kS2, hkS2, S2⟩ := nw1 u2 #[.int .u16 (s).src, .int .u16 (s).dst, .int .u32 (s).seq, .int .u32 (s).ack, .int .u8 (s).flags, .int .u16 (s).win, .int .u16 (s).urg, .slice OA on oc, .slice DA dn dc] 60); have Sc2 := S2.cell; have T2 := below_then hB2 V2; have P2 := P1.below T2; have Pc2 := P2.cell; clear Pc1; have Z2 := Z1.below T2; have Zc2 := Z2.cell; clear Zc1; have X2 := X1.below T2; have Xc2 := X2.cell; clear Xc1; have x2 := x1.below T2; have R2 := below_then R1 T2)
  have Xs := X2.set_ 3 (.int .u16 s.src)
  simp only [List.setIfInBounds_toArray, List.set_cons_zero, List.set_cons_succ] at Xs
  have Xsc := Xs.cell
  have hSl := X1.lt
  have hSg : w1.heap.size ≤ kS2 := by rw [← hkS2]; exact hB2.size
  have Ssc := (S2.far ⟨k + 1 + 1, 3, none⟩ (by show k + 1 + 1 ≠ kS2; omega) (.int .u16 s.src)).cell
  obtain ⟨w3, hw3, S3⟩ : ∃ wf, ((w2.setCell ⟨k + 1 + 1, 3, none⟩ (.int .u16 s.src)).setCell ⟨k + 1 + 1, 4, none⟩ (.int .u16 s.dst)).drew = wf ∧ Sto w2 (k + 1 + 1) wf #[.int .u8 p.proto, .int .u32 p.src, .int .u32 p.dst, .int .u16 s.src, .int .u16 s.dst] 29 := ⟨_, rfl, by
    have := (((Sto.nil X2).set 3 (.int .u16 s.src)).set 4 (.int .u16 s.dst)).drew
    simp only [List.setIfInBounds_toArray, List.set_cons_zero, List.set_cons_succ] at this
    exact this⟩
  go_region
  clear Xsc Ssc Xs
  have X3 := S3.blk
  have Xc3 := X3.cell
  have Z3 := S3.other (by omega) Z2
  have Zc3 := Z3.cell
  have R3 := S3.bel R2 (by omega)
  go_wp2_with fail
  obtain ⟨wf, hwf, Sf⟩ := store5 Z3 (.int .u8 p.proto) (.int .u32 p.src) (.int .u32 p.dst) (.int .u16 s.src) (.int .u16 s.dst)
  rw [hwf]
  have pf := Sf.blk.cell
  exact bodyPost_ret (v := .tuple #[(.agg #[.int .u8 ((⟨p.proto, p.src, p.dst, s.src, s.dst⟩ : Tup)).proto, .int .u32 ((⟨p.proto, p.src, p.dst, s.src, s.dst⟩ : Tup)).src, .int .u32 ((⟨p.proto, p.src, p.dst, s.src, s.dst⟩ : Tup)).dst, .int .u16 ((⟨p.proto, p.src, p.dst, s.src, s.dst⟩ : Tup)).sp, .int .u16 ((⟨p.proto, p.src, p.dst, s.src, s.dst⟩ : Tup)).dp]), .int .i64 0]) (by simp [results, Tryz.results9, go_sem, pf, zT]) rfl ⟨⟨rfl, Sf.bel R3 (by omega)⟩⟩
theorem rof_udp_ (p : Pkt) (A1 : Option Addr) (n1 c1 : Nat) (A2 : Option Addr) (n2 c2 : Nat) (w : World) (k2 : Bs w A2 n2 c2 p.dat) (hpr : p.proto = 17) (s : Dgm) (E : Int)
    (ht : ∀ W, Bs W A2 n2 c2 p.dat → Calls Tryz.prog 33 #[(.agg #[.int .u8 (p).tos, .int .u16 (p).id, .bool (p).keep, .int .u8 (p).ttl, .int .u8 (p).proto, .int .u32 (p).src, .int .u32 (p).dst, .slice A1 n1 c1, .slice A2 n2 c2])] W (DgPost W s E)) :
    Calls Tryz.prog 9 #[(.agg #[.int .u8 (p).tos, .int .u16 (p).id, .bool (p).keep, .int .u8 (p).ttl, .int .u8 (p).proto, .int .u32 (p).src, .int .u32 (p).dst, .slice A1 n1 c1, .slice A2 n2 c2])] w (TtPost w (tuP p s.src s.dst E) E) := by
  have hn6 : (p.proto == 6) = false := by rw [hpr]; rfl
  have y17 : (p.proto == 17) = true := by rw [hpr]; rfl
  clear hpr
  obtain ⟨k, hk, w1, hw1, P1, Z1, X1, R1⟩ := nwI3 w #[.int .u8 (p).tos, .int .u16 (p).id, .bool (p).keep, .int .u8 (p).ttl, .int .u8 (p).proto, .int .u32 (p).src, .int .u32 (p).dst, .slice A1 n1 c1, .slice A2 n2 c2] 26 #[.int .u8 0, .int .u32 0, .int .u32 0, .int .u16 0, .int .u16 0] 29 #[.int .u8 p.proto, .int .u32 p.src, .int .u32 p.dst, .int .u16 0, .int .u16 0] 29
  have Pc1 := P1.cell
  have Zc1 := Z1.cell
  have Xc1 := X1.cell
  have Pl1 := P1.lt
  have Zl1 := Z1.lt
  have Xl1 := X1.lt
  have x1 := (k2).below R1
  have i3 : w1.setCell ⟨k + 1 + 1, 3, none⟩ (.int .u16 0) = w1 := X1.idle rfl
  have i4 : w1.setCell ⟨k + 1 + 1, 4, none⟩ (.int .u16 0) = w1 := X1.idle rfl
  by_cases h0 : E = 0
  case neg =>
    have h0b : (E != 0) = true := by simpa using h0
    have hz : tuP p s.src s.dst E = zT := by unfold tuP; rw [if_pos h0]
    rw [hz]
    clear h0 hz
    go_enter Tryz.func9, Tryz.ntmps9
    go_wp2_with (go_at_call 33; ((with_reducible refine (ht w1 x1).mono ?_); rintro e u2 ⟨⟨DA, dn, dc, rfl, -, hB2⟩⟩); (obtain ⟨w2, hw2, V2, kS2, hkS2, S2⟩ := nw1 u2 #[.int .u16 (s).src, .int .u16 (s).dst, .bool (s).bare, .slice DA dn dc] 57); have Sc2 := S2.cell; have T2 := below_then hB2 V2; have P2 := P1.below T2; have Pc2 := P2.cell; clear Pc1; have Z2 := Z1.below T2; have Zc2 := Z2.cell; clear Zc1; have X2 := X1.below T2; have Xc2 := X2.cell; clear Xc1; have x2 := x1.below T2; have R2 := below_then R1 T2)
    obtain ⟨wf, hwf, Sf⟩ := store5 Z2 (.int .u8 0) (.int .u32 0) (.int .u32 0) (.int .u16 0) (.int .u16 0)
    rw [hwf]
    have pf := Sf.blk.cell
    exact bodyPost_ret (v := .tuple #[(.agg #[.int .u8 (zT).proto, .int .u32 (zT).src, .int .u32 (zT).dst, .int .u16 (zT).sp, .int .u16 (zT).dp]), .int .i64 E]) (by simp [results, Tryz.results9, go_sem, pf, zT]) rfl ⟨⟨rfl, Sf.bel R2 (by omega)⟩⟩
  subst h0
  have hok : tuP p s.src s.dst 0 = ⟨p.proto, p.src, p.dst, s.src, s.dst⟩ := by unfold tuP; rw [if_neg (by simp)]
  rw [hok]
  clear hok
  go_enter Tryz.func9, Tryz.ntmps9
  go_wp2_with (go_at_call 33; ((with_reducible refine (ht w1 x1).mono ?_); rintro e u2 ⟨⟨DA, dn, dc, rfl, -, hB2⟩⟩); (obtain ⟨w2, hw2, V2, kS2, hkS2, S2⟩ := nw1 u2 #[.int .u16 (s).src, .int .u16 (s).dst, .bool (s).bare, .slice DA dn dc] 57); have Sc2 := S2.cell; have T2 := below_then hB2 V2; have P2 := P1.below T2; have Pc2 := P2.cell; clear Pc1; have Z2 := Z1.below T2; have Zc2 := Z2.cell; clear Zc1; have X2 := X1.below T2; have Xc2 := X2.cell; clear Xc1; have x2 := x1.below T2; have R2 := below_then R1 T2)
  have Xs := X2.set_ 3 (.int .u16 s.src)
  simp only [List.setIfInBounds_toArray, List.set_cons_zero, List.set_cons_succ] at Xs
  have Xsc := Xs.cell
  have hSl := X1.lt
  have hSg : w1.heap.size ≤ kS2 := by rw [← hkS2]; exact hB2.size
  have Ssc := (S2.far ⟨k + 1 + 1, 3, none⟩ (by show k + 1 + 1 ≠ kS2; omega) (.int .u16 s.src)).cell
  obtain ⟨w3, hw3, S3⟩ : ∃ wf, ((w2.setCell ⟨k + 1 + 1, 3, none⟩ (.int .u16 s.src)).setCell ⟨k + 1 + 1, 4, none⟩ (.int .u16 s.dst)).drew = wf ∧ Sto w2 (k + 1 + 1) wf #[.int .u8 p.proto, .int .u32 p.src, .int .u32 p.dst, .int .u16 s.src, .int .u16 s.dst] 29 := ⟨_, rfl, by
    have := (((Sto.nil X2).set 3 (.int .u16 s.src)).set 4 (.int .u16 s.dst)).drew
    simp only [List.setIfInBounds_toArray, List.set_cons_zero, List.set_cons_succ] at this
    exact this⟩
  go_region
  clear Xsc Ssc Xs
  have X3 := S3.blk
  have Xc3 := X3.cell
  have Z3 := S3.other (by omega) Z2
  have Zc3 := Z3.cell
  have R3 := S3.bel R2 (by omega)
  go_wp2_with fail
  obtain ⟨wf, hwf, Sf⟩ := store5 Z3 (.int .u8 p.proto) (.int .u32 p.src) (.int .u32 p.dst) (.int .u16 s.src) (.int .u16 s.dst)
  rw [hwf]
  have pf := Sf.blk.cell
  exact bodyPost_ret (v := .tuple #[(.agg #[.int .u8 ((⟨p.proto, p.src, p.dst, s.src, s.dst⟩ : Tup)).proto, .int .u32 ((⟨p.proto, p.src, p.dst, s.src, s.dst⟩ : Tup)).src, .int .u32 ((⟨p.proto, p.src, p.dst, s.src, s.dst⟩ : Tup)).dst, .int .u16 ((⟨p.proto, p.src, p.dst, s.src, s.dst⟩ : Tup)).sp, .int .u16 ((⟨p.proto, p.src, p.dst, s.src, s.dst⟩ : Tup)).dp]), .int .i64 0]) (by simp [results, Tryz.results9, go_sem, pf, zT]) rfl ⟨⟨rfl, Sf.bel R3 (by omega)⟩⟩
theorem rof_gre_ (p : Pkt) (A1 : Option Addr) (n1 c1 : Nat) (A2 : Option Addr) (n2 c2 : Nat) (w : World) (k2 : Bs w A2 n2 c2 p.dat) (hpr : p.proto = 47) (s : Frm) (E : Int)
    (ht : ∀ W, Bs W A2 n2 c2 p.dat → Calls Tryz.prog 35 #[(.agg #[.int .u8 (p).tos, .int .u16 (p).id, .bool (p).keep, .int .u8 (p).ttl, .int .u8 (p).proto, .int .u32 (p).src, .int .u32 (p).dst, .slice A1 n1 c1, .slice A2 n2 c2])] W (FrPost W s E)) :
    Calls Tryz.prog 9 #[(.agg #[.int .u8 (p).tos, .int .u16 (p).id, .bool (p).keep, .int .u8 (p).ttl, .int .u8 (p).proto, .int .u32 (p).src, .int .u32 (p).dst, .slice A1 n1 c1, .slice A2 n2 c2])] w (TtPost w (tuP p 0 s.call E) E) := by
  have hn6 : (p.proto == 6) = false := by rw [hpr]; rfl
  have hn17 : (p.proto == 17) = false := by rw [hpr]; rfl
  have hn1 : (p.proto == 1) = false := by rw [hpr]; rfl
  have y47 : (p.proto == 47) = true := by rw [hpr]; rfl
  clear hpr
  obtain ⟨k, hk, w1, hw1, P1, Z1, X1, R1⟩ := nwI3 w #[.int .u8 (p).tos, .int .u16 (p).id, .bool (p).keep, .int .u8 (p).ttl, .int .u8 (p).proto, .int .u32 (p).src, .int .u32 (p).dst, .slice A1 n1 c1, .slice A2 n2 c2] 26 #[.int .u8 0, .int .u32 0, .int .u32 0, .int .u16 0, .int .u16 0] 29 #[.int .u8 p.proto, .int .u32 p.src, .int .u32 p.dst, .int .u16 0, .int .u16 0] 29
  have Pc1 := P1.cell
  have Zc1 := Z1.cell
  have Xc1 := X1.cell
  have Pl1 := P1.lt
  have Zl1 := Z1.lt
  have Xl1 := X1.lt
  have x1 := (k2).below R1
  have i3 : w1.setCell ⟨k + 1 + 1, 3, none⟩ (.int .u16 0) = w1 := X1.idle rfl
  have i4 : w1.setCell ⟨k + 1 + 1, 4, none⟩ (.int .u16 0) = w1 := X1.idle rfl
  by_cases h0 : E = 0
  case neg =>
    have h0b : (E != 0) = true := by simpa using h0
    have hz : tuP p 0 s.call E = zT := by unfold tuP; rw [if_pos h0]
    rw [hz]
    clear h0 hz
    go_enter Tryz.func9, Tryz.ntmps9
    go_wp2_with (go_at_call 35; ((with_reducible refine (ht w1 x1).mono ?_); rintro e u2 ⟨⟨DA, dn, dc, rfl, -, hB2⟩⟩); (obtain ⟨w2, hw2, V2, kS2, hkS2, S2⟩ := nw1 u2 #[.int .u16 (s).call, .bool (s).hs, .bool (s).ha, .int .u32 (s).seq, .int .u32 (s).ack, .slice DA dn dc] 68); have Sc2 := S2.cell; have T2 := below_then hB2 V2; have P2 := P1.below T2; have Pc2 := P2.cell; clear Pc1; have Z2 := Z1.below T2; have Zc2 := Z2.cell; clear Zc1; have X2 := X1.below T2; have Xc2 := X2.cell; clear Xc1; have x2 := x1.below T2; have R2 := below_then R1 T2)
    obtain ⟨wf, hwf, Sf⟩ := store5 Z2 (.int .u8 0) (.int .u32 0) (.int .u32 0) (.int .u16 0) (.int .u16 0)
    rw [hwf]
    have pf := Sf.blk.cell
    exact bodyPost_ret (v := .tuple #[(.agg #[.int .u8 (zT).proto, .int .u32 (zT).src, .int .u32 (zT).dst, .int .u16 (zT).sp, .int .u16 (zT).dp]), .int .i64 E]) (by simp [results, Tryz.results9, go_sem, pf, zT]) rfl ⟨⟨rfl, Sf.bel R2 (by omega)⟩⟩
  subst h0
  have hok : tuP p 0 s.call 0 = ⟨p.proto, p.src, p.dst, 0, s.call⟩ := by unfold tuP; rw [if_neg (by simp)]
  rw [hok]
  clear hok
  go_enter Tryz.func9, Tryz.ntmps9
  go_wp2_with (go_at_call 35; ((with_reducible refine (ht w1 x1).mono ?_); rintro e u2 ⟨⟨DA, dn, dc, rfl, -, hB2⟩⟩); (obtain ⟨w2, hw2, V2, kS2, hkS2, S2⟩ := nw1 u2 #[.int .u16 (s).call, .bool (s).hs, .bool (s).ha, .int .u32 (s).seq, .int .u32 (s).ack, .slice DA dn dc] 68); have Sc2 := S2.cell; have T2 := below_then hB2 V2; have P2 := P1.below T2; have Pc2 := P2.cell; clear Pc1; have Z2 := Z1.below T2; have Zc2 := Z2.cell; clear Zc1; have X2 := X1.below T2; have Xc2 := X2.cell; clear Xc1; have x2 := x1.below T2; have R2 := below_then R1 T2; (obtain ⟨w3, hw3, S3⟩ := store4_ X2 (.int .u16 s.call)); have X3 := S3.blk; have Xc3 := X3.cell; have Z3 := S3.other (by omega) Z2; have Zc3 := Z3.cell; have R3 := S3.bel R2 (by omega))
  obtain ⟨wf, hwf, Sf⟩ := store5 Z3 (.int .u8 p.proto) (.int .u32 p.src) (.int .u32 p.dst) (.int .u16 0) (.int .u16 s.call)
  rw [hwf]
  have pf := Sf.blk.cell
  exact bodyPost_ret (v := .tuple #[(.agg #[.int .u8 ((⟨p.proto, p.src, p.dst, 0, s.call⟩ : Tup)).proto, .int .u32 ((⟨p.proto, p.src, p.dst, 0, s.call⟩ : Tup)).src, .int .u32 ((⟨p.proto, p.src, p.dst, 0, s.call⟩ : Tup)).dst, .int .u16 ((⟨p.proto, p.src, p.dst, 0, s.call⟩ : Tup)).sp, .int .u16 ((⟨p.proto, p.src, p.dst, 0, s.call⟩ : Tup)).dp]), .int .i64 0]) (by simp [results, Tryz.results9, go_sem, pf, zT]) rfl ⟨⟨rfl, Sf.bel R3 (by omega)⟩⟩
theorem rof_icmp_ (p : Pkt) (A1 : Option Addr) (n1 c1 : Nat) (A2 : Option Addr) (n2 c2 : Nat) (w : World) (k2 : Bs w A2 n2 c2 p.dat) (hpr : p.proto = 1) (s : Msg) (hs : s.Ok) (E : Int)
    (ht : ∀ W, Bs W A2 n2 c2 p.dat → Calls Tryz.prog 12 #[(.agg #[.int .u8 (p).tos, .int .u16 (p).id, .bool (p).keep, .int .u8 (p).ttl, .int .u8 (p).proto, .int .u32 (p).src, .int .u32 (p).dst, .slice A1 n1 c1, .slice A2 n2 c2])] W (MsPost W s E)) :
    Calls Tryz.prog 9 #[(.agg #[.int .u8 (p).tos, .int .u16 (p).id, .bool (p).keep, .int .u8 (p).ttl, .int .u8 (p).proto, .int .u32 (p).src, .int .u32 (p).dst, .slice A1 n1 c1, .slice A2 n2 c2])] w (TtPost w (tuP p (s.rest / 65536) (s.rest / 65536) (picE E s)) (picE E s)) := by
  have n6 : (p.proto == 6) = false := by rw [hpr]; rfl
  have n17 : (p.proto == 17) = false := by rw [hpr]; rfl
  have y1 : (p.proto == 1) = true := by rw [hpr]; rfl
  clear hpr
  obtain ⟨r0, r1⟩ := hs.rest
  have hc := fun B b1 b2 W => risecho_any s B b1 b2 W
  obtain ⟨q, hq⟩ : ∃ q, s.rest / 65536 = q := ⟨_, rfl⟩
  have hq0 : 0 ≤ q ∧ q ≤ 65535 := by omega
  have hq1 : q % 65536 = q := by omega
  rw [hq]
  obtain ⟨b, hb⟩ : ∃ b, isEchoM s = b := ⟨_, rfl⟩
  have HE : Hid (picE E s = if E = 0 ∧ b = false then 12 else E) := by unfold Hid picE; rw [hb]
  rw [hb] at hc
  rw [HE.out]
  clear hb hs HE
  obtain ⟨k, hk, w1, hw1, P1, Z1, X1, R1⟩ := nwI3 w #[.int .u8 (p).tos, .int .u16 (p).id, .bool (p).keep, .int .u8 (p).ttl, .int .u8 (p).proto, .int .u32 (p).src, .int .u32 (p).dst, .slice A1 n1 c1, .slice A2 n2 c2] 26 #[.int .u8 0, .int .u32 0, .int .u32 0, .int .u16 0, .int .u16 0] 29 #[.int .u8 p.proto, .int .u32 p.src, .int .u32 p.dst, .int .u16 0, .int .u16 0] 29
  have Pc1 := P1.cell
  have Zc1 := Z1.cell
  have Xc1 := X1.cell
  have Pl1 := P1.lt
  have Zl1 := Z1.lt
  have Xl1 := X1.lt
  have x1 := (k2).below R1
  have i3 : w1.setCell ⟨k + 1 + 1, 3, none⟩ (.int .u16 0) = w1 := X1.idle rfl
  have i4 : w1.setCell ⟨k + 1 + 1, 4, none⟩ (.int .u16 0) = w1 := X1.idle rfl
  by_cases h0 : E = 0
  case neg =>
    have h0b : (E != 0) = true := by simpa using h0
    have hz : tuP p q q E = zT := by unfold tuP; rw [if_pos h0]
    rw [if_neg (by simp [h0]), hz]
    clear h0 hz
    go_enter Tryz.func9, Tryz.ntmps9
    go_wp2_with (go_at_call 12; ((with_reducible refine (ht w1 x1).mono ?_); rintro e u2 ⟨⟨DA, dn, dc, rfl, -, hB2⟩⟩); (obtain ⟨w2, hw2, V2, kS2, hkS2, S2⟩ := nw1 u2 #[.int .u8 (s).ty, .int .u8 (s).code, .int .u32 (s).rest, .slice DA dn dc] 42); have Sc2 := S2.cell; have T2 := below_then hB2 V2; have P2 := P1.below T2; have Pc2 := P2.cell; clear Pc1; have Z2 := Z1.below T2; have Zc2 := Z2.cell; clear Zc1; have X2 := X1.below T2; have Xc2 := X2.cell; clear Xc1; have x2 := x1.below T2; have R2 := below_then R1 T2)
    obtain ⟨wf, hwf, Sf⟩ := store5 Z2 (.int .u8 0) (.int .u32 0) (.int .u32 0) (.int .u16 0) (.int .u16 0)
    rw [hwf]
    have pf := Sf.blk.cell
    exact bodyPost_ret (v := .tuple #[(.agg #[.int .u8 (zT).proto, .int .u32 (zT).src, .int .u32 (zT).dst, .int .u16 (zT).sp, .int .u16 (zT).dp]), .int .i64 E]) (by simp [results, Tryz.results9, go_sem, pf, zT]) rfl ⟨⟨rfl, Sf.bel R2 (by omega)⟩⟩
  subst h0
  cases b
  · rw [if_pos ⟨rfl, rfl⟩]
    have hz : tuP p q q 12 = zT := by unfold tuP; rw [if_pos (by decide)]
    rw [hz]
    clear hz
    go_enter Tryz.func9, Tryz.ntmps9
    go_wp2_with (first
      | (go_at_call 12; ((with_reducible refine (ht w1 x1).mono ?_); rintro e u2 ⟨⟨DA, dn, dc, rfl, -, hB2⟩⟩); (obtain ⟨w2, hw2, V2, kS2, hkS2, S2⟩ := nw1 u2 #[.int .u8 (s).ty, .int .u8 (s).code, .int .u32 (s).rest, .slice DA dn dc] 42); have Sc2 := S2.cell; have T2 := below_then hB2 V2; have P2 := P1.below T2; have Pc2 := P2.cell; clear Pc1; have Z2 := Z1.below T2; have Zc2 := Z2.cell; clear Zc1; have X2 := X1.below T2; have Xc2 := X2.cell; clear Xc1; have x2 := x1.below T2; have R2 := below_then R1 T2)
      | (go_at_call 34; ((with_reducible refine (hc DA dn dc w2).mono ?_); rintro e w3 ⟨rfl, hB3⟩); have P3 := P2.below hB3; have Pc3 := P3.cell; clear Pc2; have Z3 := Z2.below hB3; have Zc3 := Z3.cell; clear Zc2; have X3 := X2.below hB3; have Xc3 := X3.cell; clear Xc2; have S3 := S2.below hB3; have Sc3 := S3.cell; clear Sc2; have x3 := x2.below hB3; have R3 := below_then R2 hB3))
    obtain ⟨wf, hwf, Sf⟩ := store5 Z3 (.int .u8 0) (.int .u32 0) (.int .u32 0) (.int .u16 0) (.int .u16 0)
    rw [hwf]
    have pf := Sf.blk.cell
    exact bodyPost_ret (v := .tuple #[(.agg #[.int .u8 (zT).proto, .int .u32 (zT).src, .int .u32 (zT).dst, .int .u16 (zT).sp, .int .u16 (zT).dp]), .int .i64 12]) (by simp [results, Tryz.results9, go_sem, pf, zT]) rfl ⟨⟨rfl, Sf.bel R3 (by omega)⟩⟩
  · have hok : tuP p q q 0 = ⟨p.proto, p.src, p.dst, q, q⟩ := by unfold tuP; rw [if_neg (by simp)]
    rw [if_neg (by simp), hok]
    clear hok
    go_enter Tryz.func9, Tryz.ntmps9
    go_wp2_with (first
      | (go_at_call 12; ((with_reducible refine (ht w1 x1).mono ?_); rintro e u2 ⟨⟨DA, dn, dc, rfl, -, hB2⟩⟩); (obtain ⟨w2, hw2, V2, kS2, hkS2, S2⟩ := nw1 u2 #[.int .u8 (s).ty, .int .u8 (s).code, .int .u32 (s).rest, .slice DA dn dc] 42); have Sc2 := S2.cell; have T2 := below_then hB2 V2; have P2 := P1.below T2; have Pc2 := P2.cell; clear Pc1; have Z2 := Z1.below T2; have Zc2 := Z2.cell; clear Zc1; have X2 := X1.below T2; have Xc2 := X2.cell; clear Xc1; have x2 := x1.below T2; have R2 := below_then R1 T2)
      | (go_at_call 34; ((with_reducible refine (hc DA dn dc w2).mono ?_); rintro e w3 ⟨rfl, hB3⟩); have P3 := P2.below hB3; have Pc3 := P3.cell; clear Pc2; have Z3 := Z2.below hB3; have Zc3 := Z3.cell; clear Zc2; have X3 := X2.below hB3; have Xc3 := X3.cell; clear Xc2; have S3 := S2.below hB3; have Sc3 := S3.cell; clear Sc2; have x3 := x2.below hB3; have R3 := below_then R2 hB3; (obtain ⟨w4, hw4, S4⟩ := store34 X3 (.int .u16 q) (.int .u16 q)); have X4 := S4.blk; have Xc4 := X4.cell; have Z4 := S4.other (by omega) Z3; have Zc4 := Z4.cell; have R4 := S4.bel R3 (by omega); have Xc5 := (X3.set_ 3 (.int .u16 q)).cell))
    obtain ⟨wf, hwf, Sf⟩ := store5 Z4 (.int .u8 p.proto) (.int .u32 p.src) (.int .u32 p.dst) (.int .u16 q) (.int .u16 q)
    rw [hwf]
    have pf := Sf.blk.cell
    exact bodyPost_ret (v := .tuple #[(.agg #[.int .u8 ((⟨p.proto, p.src, p.dst, q, q⟩ : Tup)).proto, .int .u32 ((⟨p.proto, p.src, p.dst, q, q⟩ : Tup)).src, .int .u32 ((⟨p.proto, p.src, p.dst, q, q⟩ : Tup)).dst, .int .u16 ((⟨p.proto, p.src, p.dst, q, q⟩ : Tup)).sp, .int .u16 ((⟨p.proto, p.src, p.dst, q, q⟩ : Tup)).dp]), .int .i64 0]) (by simp [results, Tryz.results9, go_sem, pf, zT]) rfl ⟨⟨rfl, Sf.bel R4 (by omega)⟩⟩
theorem rof_no (p : Pkt) (A1 : Option Addr) (n1 c1 : Nat) (A2 : Option Addr) (n2 c2 : Nat) (w : World) (h6 : p.proto ≠ 6) (h17 : p.proto ≠ 17) (h1 : p.proto ≠ 1) (h47 : p.proto ≠ 47) :
    Calls Tryz.prog 9 #[(.agg #[.int .u8 (p).tos, .int .u16 (p).id, .bool (p).keep, .int .u8 (p).ttl, .int .u8 (p).proto, .int .u32 (p).src, .int .u32 (p).dst, .slice A1 n1 c1, .slice A2 n2 c2])] w (TtPost w zT 12) := by
  have n6 : (p.proto == 6) = false := by simpa using h6
  have n17 : (p.proto == 17) = false := by simpa using h17
  have hn1 : (p.proto == 1) = false := by simpa using h1
  have n47 : (p.proto == 47) = false := by simpa using h47
  clear h6 h17 h1 h47
  obtain ⟨k, hk, w1, hw1, P1, Z1, X1, R1⟩ := nwI3 w #[.int .u8 (p).tos, .int .u16 (p).id, .bool (p).keep, .int .u8 (p).ttl, .int .u8 (p).proto, .int .u32 (p).src, .int .u32 (p).dst, .slice A1 n1 c1, .slice A2 n2 c2] 26 #[.int .u8 0, .int .u32 0, .int .u32 0, .int .u16 0, .int .u16 0] 29 #[.int .u8 p.proto, .int .u32 p.src, .int .u32 p.dst, .int .u16 0, .int .u16 0] 29
  have Pc1 := P1.cell
  have Zc1 := Z1.cell
  have Xc1 := X1.cell
  have Pl1 := P1.lt
  have Zl1 := Z1.lt
  have Xl1 := X1.lt
  have i3 : w1.setCell ⟨k + 1 + 1, 3, none⟩ (.int .u16 0) = w1 := X1.idle rfl
  have i4 : w1.setCell ⟨k + 1 + 1, 4, none⟩ (.int .u16 0) = w1 := X1.idle rfl
  go_enter Tryz.func9, Tryz.ntmps9
  go_wp2_with fail
  obtain ⟨wf, hwf, Sf⟩ := store5 Z1 (.int .u8 0) (.int .u32 0) (.int .u32 0) (.int .u16 0) (.int .u16 0)
  rw [hwf]
  have pf := Sf.blk.cell
  exact bodyPost_ret (v := .tuple #[(.agg #[.int .u8 (zT).proto, .int .u32 (zT).src, .int .u32 (zT).dst, .int .u16 (zT).sp, .int .u16 (zT).dp]), .int .i64 12]) (by simp [results, Tryz.results9, go_sem, pf, zT]) rfl ⟨⟨rfl, Sf.bel R1 (by omega)⟩⟩
theorem rof_any (p : Pkt) (hp : p.Ok) (A1 : Option Addr) (n1 c1 : Nat) (A2 : Option Addr) (n2 c2 : Nat) (w : World) (k2 : Bs w A2 n2 c2 p.dat) (h7 : n2 ≤ 17592186044400) :
    Calls Tryz.prog 9 #[(.agg #[.int .u8 (p).tos, .int .u16 (p).id, .bool (p).keep, .int .u8 (p).ttl, .int .u8 (p).proto, .int .u32 (p).src, .int .u32 (p).dst, .slice A1 n1 c1, .slice A2 n2 c2])] w (TtPost w (ofT p) (ofE p)) := by
  unfold ofT ofE
  by_cases h6 : p.proto = 6
  · rw [if_pos h6, if_pos h6]; exact rof_tcp_ p A1 n1 c1 A2 n2 c2 w k2 h6 _ _ (fun W h => rtcp_any p hp A1 n1 c1 A2 n2 c2 W h h7)
  rw [if_neg h6, if_neg h6]
  by_cases h17 : p.proto = 17
  · rw [if_pos h17, if_pos h17]; exact rof_udp_ p A1 n1 c1 A2 n2 c2 w k2 h17 _ _ (fun W h => rudp_any p hp A1 n1 c1 A2 n2 c2 W h)
  rw [if_neg h17, if_neg h17]
  by_cases h1 : p.proto = 1
  · rw [if_pos h1, if_pos h1]; exact rof_icmp_ p A1 n1 c1 A2 n2 c2 w k2 h1 _ (icM_ok p) _ (fun W h => ricmp_any p A1 n1 c1 A2 n2 c2 W h (by omega))
  rw [if_neg h1, if_neg h1]
  by_cases h47 : p.proto = 47
  · rw [if_pos h47, if_pos h47]; exact rof_gre_ p A1 n1 c1 A2 n2 c2 w k2 h47 _ _ (fun W h => rgre_any p A1 n1 c1 A2 n2 c2 W h)
  rw [if_neg h47, if_neg h47]
  exact rof_no p A1 n1 c1 A2 n2 c2 w h6 h17 h1 h47
def q10u : Pkt := ⟨0, 0, false, 0, 0, 1, 2, [], []⟩
def d10u : Dgm := ⟨3, 4, false, []⟩
def p10u : Pkt := ⟨0, 0, false, 0, 17, 1, 2, [], dS q10u d10u⟩
def t10u : Tup := ⟨17, 5, 2, 6, 4⟩
theorem q10u_ok : q10u.Ok := ⟨by decide, by decide, by decide, by decide, by decide, by decide⟩
theorem p10u_ok : p10u.Ok := ⟨by decide, by decide, by decide, by decide, by decide, by decide⟩
theorem t10u_ok : t10u.Ok := ⟨by decide, by decide, by decide, by decide, by decide⟩
theorem liveU_any (w : World) : Calls Tryz.prog 7 #[] w fun e w' => e = .returned (.bool true) ∧ Below w.heap.size w w' := by
  have cu : ∀ W, Calls Tryz.prog 30 #[.agg #[.int .u8 0, .int .u16 0, .bool false, .int .u8 0, .int .u8 0, .int .u32 1, .int .u32 2, .slice none 0 0, .slice none 0 0], .agg #[.int .u16 3, .int .u16 4, .bool false, .slice none 0 0]] W fun e w' => ∃ B1 m1 d1 B2 d2, e = .returned (.tuple #[.agg #[.int .u8 0, .int .u16 0, .bool false, .int .u8 0, .int .u8 17, .int .u32 1, .int .u32 2, .slice B1 m1 d1, .slice B2 8 d2], .int .i64 0]) ∧ Bs w' B1 m1 d1 [] ∧ Bs w' B2 8 d2 p10u.dat ∧ Below W.heap.size W w' := fun W => by
    have hh := rdbuild_any q10u q10u_ok none 0 0 none 0 0 d10u ⟨by decide, by decide⟩ none 0 0 W (Bs.none_ _) (Bs.none_ _)
    refine hh.mono fun e w' hq => ?_
    obtain ⟨B1, m1, d1, B2, m2, d2, rfl, h1, h2, h3⟩ := hq.out
    have e1 : dbP q10u d10u = p10u := by kernel_rfl
    have e2 : dbE q10u d10u = 0 := by kernel_rfl
    rw [e1] at h1 h2 ⊢
    rw [e2]
    have h5 : m2 = 8 := by have h4 := h2.len; rw [show p10u.dat = dS q10u d10u from rfl, dS_len] at h4; simpa [d10u] using h4.symm
    subst h5
    exact ⟨B1, m1, d1, B2, d2, rfl, h1.bs, h2.bs, h3⟩
  have hu : udE p10u = 0 := by kernel_rfl
  have hE : dbE (rwQ p10u t10u) (udW p10u t10u) = 0 := by kernel_rfl
  obtain ⟨a1, a2, -, -⟩ := db_back (udW_ok p10u t10u_ok) hE
  obtain ⟨hf, -⟩ := db_form hE
  obtain ⟨d, hd⟩ : ∃ d, dS (rwQ p10u t10u) (udW p10u t10u) = d := ⟨_, rfl⟩
  rw [hd] at hf
  have hf' : dbP (rwQ p10u t10u) (udW p10u t10u) = ⟨0, 0, false, 0, 17, 5, 2, [], d⟩ := hf
  rw [hf'] at a1 a2
  have hro : (⟨0, 0, false, 0, 17, 5, 2, [], d⟩ : Pkt).Ok := ⟨by simp, by simp, by simp, by simp, by simp, by simp⟩
  have cr : ∀ W B1 m1 d1 B2 d2, Bs W B1 m1 d1 [] → Bs W B2 8 d2 p10u.dat → Calls Tryz.prog 31 #[.agg #[.int .u8 0, .int .u16 0, .bool false, .int .u8 0, .int .u8 17, .int .u32 1, .int .u32 2, .slice B1 m1 d1, .slice B2 8 d2], .agg #[.int .u8 17, .int .u32 5, .int .u32 2, .int .u16 6, .int .u16 4]] W fun e w' => ∃ C1 e1 f1 C2 e2 f2, e = .returned (.tuple #[.agg #[.int .u8 0, .int .u16 0, .bool false, .int .u8 0, .int .u8 17, .int .u32 5, .int .u32 2, .slice C1 e1 f1, .slice C2 e2 f2], .int .i64 0]) ∧ Bs w' C2 e2 f2 d ∧ Below W.heap.size W w' := fun W B1 m1 d1 B2 d2 K1 K2 => by
    have ho : ∀ W, Bs W B2 8 d2 p10u.dat → Calls Tryz.prog 72 #[(.agg #[.int .u8 (p10u).tos, .int .u16 (p10u).id, .bool (p10u).keep, .int .u8 (p10u).ttl, .int .u8 (p10u).proto, .int .u32 (p10u).src, .int .u32 (p10u).dst, .slice B1 m1 d1, .slice B2 8 d2])] W (TtPost W (tuP p10u (udD p10u).src (udD p10u).dst (udE p10u)) 0) := fun W k => by
      have := of_udp p10u p10u_ok B1 m1 d1 B2 8 d2 W k rfl
      rw [hu] at this
      rw [hu]
      exact this
    have hrw := rw_udp p10u t10u B1 m1 d1 B2 8 d2 W K1 K2 rfl rfl _ ho _ _ (fun W a b => chudp_any p10u p10u_ok t10u t10u_ok B1 m1 d1 B2 8 d2 (rwQ p10u t10u) (rwQ_ok p10u_ok t10u_ok) B1 m1 d1 B2 8 d2 W b a (by omega))
    refine hrw.mono fun e w' hq => ?_
    obtain ⟨C1, e1, f1, C2, e2, f2, rfl, -, h2, h3⟩ := hq.out
    rw [hE]
    rw [hf'] at h2 ⊢
    exact ⟨C1, e1, f1, C2, e2, f2, rfl, h2.bs, h3⟩
  have co : ∀ W C1 e1 f1 C2 e2 f2, Bs W C2 e2 f2 d → Calls Tryz.prog 9 #[.agg #[.int .u8 0, .int .u16 0, .bool false, .int .u8 0, .int .u8 17, .int .u32 5, .int .u32 2, .slice C1 e1 f1, .slice C2 e2 f2]] W fun e w' => e = .returned (.tuple #[.agg #[.int .u8 17, .int .u32 5, .int .u32 2, .int .u16 6, .int .u16 4], .int .i64 0]) ∧ Below W.heap.size W w' := fun W C1 e1 f1 C2 e2 f2 K => by
    have hh := rof_udp_ ⟨0, 0, false, 0, 17, 5, 2, [], d⟩ C1 e1 f1 C2 e2 f2 W K rfl _ _ (fun W h => rudp_any _ hro C1 e1 f1 C2 e2 f2 W h)
    rw [a1, a2] at hh
    exact hh.mono fun e w' hq => hq.out
  clear hE hu a1 a2 hf hf' hd hro
  have R1 := Below.refl w.heap.size w
  obtain ⟨w1, hw1⟩ : ∃ W, w = W := ⟨_, rfl⟩
  rw [hw1] at R1
  subst hw1
  go_enter Tryz.func7, Tryz.ntmps7
  go_wp2_with (first
    | (go_at_call 30; ((with_reducible refine (cu w).mono ?_); rintro e u2 ⟨B1, m1, d1, B2, d2, rfl, k8, k9, hB2⟩); (obtain ⟨w2, hw2, V2, kP2, hkP2, P2⟩ := nw1 u2 #[.int .u8 0, .int .u16 0, .bool false, .int .u8 0, .int .u8 17, .int .u32 1, .int .u32 2, .slice B1 m1 d1, .slice B2 8 d2] 26); have Pc2 := P2.cell; have T2 := below_then hB2 V2; have x2 := (k8).below V2; have y2 := (k9).below V2; have R2 := below_then R1 T2)
    | (go_at_call 31; ((with_reducible refine (cr w2 B1 m1 d1 B2 d2 x2 y2).mono ?_); rintro e u3 ⟨C1, e1, f1, C2, e2, f2, rfl, k7, hB3⟩); (obtain ⟨w3, hw3, V3, kO3, hkO3, O3⟩ := nw1 u3 #[.int .u8 0, .int .u16 0, .bool false, .int .u8 0, .int .u8 17, .int .u32 5, .int .u32 2, .slice C1 e1 f1, .slice C2 e2 f2] 26); have Oc3 := O3.cell; have T3 := below_then hB3 V3; have z3 := (k7).below V3; have P3 := P2.below T3; have Pc3 := P3.cell; clear Pc2; have x3 := x2.below T3; have y3 := y2.below T3; have R3 := below_then R2 T3)
    | (go_at_call 9; ((with_reducible refine (co w3 C1 e1 f1 C2 e2 f2 z3).mono ?_); rintro e u4 ⟨rfl, hB4⟩); (obtain ⟨w4, hw4, V4, kS4, hkS4, S4⟩ := nw1 u4 #[.int .u8 17, .int .u32 5, .int .u32 2, .int .u16 6, .int .u16 4] 29); have Sc4 := S4.cell; have T4 := below_then hB4 V4; have P4 := P3.below T4; have Pc4 := P4.cell; clear Pc3; have O4 := O3.below T4; have Oc4 := O4.cell; clear Oc3; have x4 := x3.below T4; have y4 := y3.below T4; have z4 := z3.below T4; have R4 := below_then R3 T4))
  go_ret
  exact ⟨rfl, R4⟩
theorem patch_bd (s a b : Int) : 0 ≤ patch s a b ∧ patch s a b ≤ 65535 := by
  unfold patch
  have h1 := fd_lo ((65535 - s) + (65535 - a) + b)
  have h2 := fd_hi ((65535 - s) + (65535 - a) + b)
  omega
def patK (s : Int) (a b : Nat → Int) : Nat → Int
  | 0 => s
  | k + 1 => patch (patK s a b k) (a k) (b k)
theorem patK_bd {s : Int} (h0 : 0 ≤ s) (h1 : s ≤ 65535) (a b : Nat → Int) : ∀ k, 0 ≤ patK s a b k ∧ patK s a b k ≤ 65535
  | 0 => ⟨h0, h1⟩
  | k + 1 => patch_bd _ _ _
def six (x0 x1 x2 x3 x4 x5 : Int) : Nat → Int
  | 0 => x0 | 1 => x1 | 2 => x2 | 3 => x3 | 4 => x4 | _ => x5
def wdsT (t : Tup) : Nat → Int := six (t.src / 65536) (t.src % 65536) (t.dst / 65536) (t.dst % 65536) t.sp t.dp
theorem tw_any (t : Tup) (ht : t.Ok) (w : World) :
    Calls Tryz.prog 59 #[(.agg #[.int .u8 (t).proto, .int .u32 (t).src, .int .u32 (t).dst, .int .u16 (t).sp, .int .u16 (t).dp])] w fun e w' => e = .returned (.agg #[.int .u16 (t.src / 65536), .int .u16 (t.src % 65536), .int .u16 (t.dst / 65536), .int .u16 (t.dst % 65536), .int .u16 t.sp, .int .u16 t.dp]) ∧ Below w.heap.size w w' := by
  obtain ⟨s0, s1⟩ := ht.src
  obtain ⟨d0, d1⟩ := ht.dst
  obtain ⟨q, hq⟩ : ∃ q, t.src / 65536 = q := ⟨_, rfl⟩
  obtain ⟨r, hr⟩ : ∃ q, t.dst / 65536 = q := ⟨_, rfl⟩
  have q0 : 0 ≤ q ∧ q ≤ 65535 := by omega
  have r0 : 0 ≤ r ∧ r ≤ 65535 := by omega
  have q2 : q % 65536 = q := by omega
  have r2 : r % 65536 = r := by omega
  rw [hq, hr]
  obtain ⟨x1, hx1⟩ : ∃ x, IntKind.u16.wrap t.src = x := ⟨_, rfl⟩
  obtain ⟨x2, hx2⟩ : ∃ x, IntKind.u16.wrap t.dst = x := ⟨_, rfl⟩
  have e1 : t.src % 65536 = x1 := by rw [← hx1, IntKind.wrap_u16]
  have e2 : t.dst % 65536 = x2 := by rw [← hx2, IntKind.wrap_u16]
  rw [e1, e2]
  clear e1 e2
  obtain ⟨k, hk, w1, hw1, P1, Z1, R1⟩ := nwI2 w #[.int .u8 (t).proto, .int .u32 (t).src, .int .u32 (t).dst, .int .u16 (t).sp, .int .u16 (t).dp] 29 #[.int .u16 0, .int .u16 0, .int .u16 0, .int .u16 0, .int .u16 0, .int .u16 0] 102
  have Pc1 := P1.cell
  have Zc1 := Z1.cell
  have Pl1 := P1.lt
  have Zl1 := Z1.lt
  go_enter Tryz.func59, Tryz.ntmps59
  go_wp2_with fail
  obtain ⟨wf, hwf, Sf⟩ := store6 Z1 (.int .u16 q) (.int .u16 x1) (.int .u16 r) (.int .u16 x2) (.int .u16 t.sp) (.int .u16 t.dp)
  rw [hwf]
  have pf := Sf.blk.cell
  exact bodyPost_ret (v := .agg #[.int .u16 q, .int .u16 x1, .int .u16 r, .int .u16 x2, .int .u16 t.sp, .int .u16 t.dp]) (by simp [results, Tryz.results59, go_sem, pf]) rfl ⟨rfl, Sf.bel R1 (by omega)⟩
theorem repair_any (A : Option Addr) (n c : Nat) (l : List UInt8) (p : Int) (a b : Nat → Int) (ha : ∀ i, i < 6 → 0 ≤ a i ∧ a i ≤ 65535) (hb : ∀ i, i < 6 → 0 ≤ b i ∧ b i ≤ 65535) (w : World) (k1 : Bs w A n c l) :
    Calls Tryz.prog 58 #[.slice A n c, .int .i64 p, .agg #[.int .u16 (a 0), .int .u16 (a 1), .int .u16 (a 2), .int .u16 (a 3), .int .u16 (a 4), .int .u16 (a 5)], .agg #[.int .u16 (b 0), .int .u16 (b 1), .int .u16 (b 2), .int .u16 (b 3), .int .u16 (b 4), .int .u16 (b 5)]] w
      fun e w' => ∃ A' c', e = .returned (.slice A' n c') ∧ Own w' w.heap.size 5 A' n c' (put16 l p (patK (get16 l p) a b 6)) ∧ Below w.heap.size w w' := by
  obtain ⟨s0, hs0⟩ : ∃ s, get16 l p = s := ⟨_, rfl⟩
  have g0 := get16_lo l p
  have g1 := get16_hi l p
  have cg := fun W h => get16_any A n c l p W h
  rw [hs0] at cg g0 g1 ⊢
  have hbd := patK_bd g0 g1 a b
  have hst : ∀ j, patch (patK s0 a b j) (a j) (b j) = patK s0 a b (j + 1) := fun j => rfl
  have cp : ∀ j, j < 6 → ∀ W, Calls Tryz.prog 91 #[.int .u16 (patK s0 a b j), .int .u16 (a j), .int .u16 (b j)] W fun e w' => e = .returned (.int .u16 (patK s0 a b (j + 1))) ∧ W = w' := fun j hj W => by
    have h1 := hbd j
    have h2 := ha j hj
    have h3 := hb j hj
    exact patch_any _ _ _ h1.1 h1.2 h2.1 h2.2 h3.1 h3.2 W
  obtain ⟨pk, hpk⟩ : ∃ f, patK s0 a b = f := ⟨_, rfl⟩
  have hp0 : Hid (pk 0 = s0) := by unfold Hid; rw [← hpk]; rfl
  rw [hpk] at cp hbd ⊢
  have cw := fun W h => put16_any A n c l p (pk 6) (hbd 6).1 (hbd 6).2 W h
  clear hst hpk hs0 g0 g1 ha hb
  obtain ⟨k, hk, w1, hw1, P1, O1, R1⟩ := nwI2 w #[.int .u16 (a 0), .int .u16 (a 1), .int .u16 (a 2), .int .u16 (a 3), .int .u16 (a 4), .int .u16 (a 5)] 102 #[.int .u16 (b 0), .int .u16 (b 1), .int .u16 (b 2), .int .u16 (b 3), .int .u16 (b 4), .int .u16 (b 5)] 102
  have Pc1 := P1.cell
  have Oc1 := O1.cell
  have Pl1 := P1.lt
  have Ol1 := O1.lt
  have x1 := (k1).below R1
  go_enter Tryz.func58, Tryz.ntmps58
  go_wp2_with (go_at_call 60; ((with_reducible refine (cg w1 x1).mono ?_); rintro e w2 ⟨rfl, hD2⟩); have hB2 := hD2.bel; have P2 := P1.below hB2; have Pc2 := P2.cell; clear Pc1; have O2 := O1.below hB2; have Oc2 := O2.cell; clear Oc1; have x2 := x1.below hB2; have R2 := below_then R1 hB2)
  have hx0 : ∀ W, (Instr.index 102 (.agg #[.int .u16 (a 0), .int .u16 (a 1), .int .u16 (a 2), .int .u16 (a 3), .int .u16 (a 4), .int .u16 (a 5)]) (.int .i64 0)).run Tryz.prog W = .ok (.int .u16 (a 0)) W := fun W => rfl
  have hx1 : ∀ W, (Instr.index 102 (.agg #[.int .u16 (a 0), .int .u16 (a 1), .int .u16 (a 2), .int .u16 (a 3), .int .u16 (a 4), .int .u16 (a 5)]) (.int .i64 1)).run Tryz.prog W = .ok (.int .u16 (a 1)) W := fun W => rfl
  have hx2 : ∀ W, (Instr.index 102 (.agg #[.int .u16 (a 0), .int .u16 (a 1), .int .u16 (a 2), .int .u16 (a 3), .int .u16 (a 4), .int .u16 (a 5)]) (.int .i64 2)).run Tryz.prog W = .ok (.int .u16 (a 2)) W := fun W => rfl
  have hx3 : ∀ W, (Instr.index 102 (.agg #[.int .u16 (a 0), .int .u16 (a 1), .int .u16 (a 2), .int .u16 (a 3), .int .u16 (a 4), .int .u16 (a 5)]) (.int .i64 3)).run Tryz.prog W = .ok (.int .u16 (a 3)) W := fun W => rfl
  have hx4 : ∀ W, (Instr.index 102 (.agg #[.int .u16 (a 0), .int .u16 (a 1), .int .u16 (a 2), .int .u16 (a 3), .int .u16 (a 4), .int .u16 (a 5)]) (.int .i64 4)).run Tryz.prog W = .ok (.int .u16 (a 4)) W := fun W => rfl
  have hx5 : ∀ W, (Instr.index 102 (.agg #[.int .u16 (a 0), .int .u16 (a 1), .int .u16 (a 2), .int .u16 (a 3), .int .u16 (a 4), .int .u16 (a 5)]) (.int .i64 5)).run Tryz.prog W = .ok (.int .u16 (a 5)) W := fun W => rfl
  go_loopw [9, 16] (fun s i wr => ∃ (j : Nat) (x : Int), j ≤ 6 ∧ x = (j : Int) ∧ i = .int .i64 x ∧ s = .int .u16 (pk j) ∧ wr = w2) (fun _ i _ => 6 - (intOf i).toNat)
  case atStart => exact ⟨0, 0, by omega, rfl, rfl, by rw [hp0.out], rfl⟩
  case round =>
    obtain ⟨j, x, hj, hxj, rfl, rfl, rfl⟩ := hrel
    have hbj := hbd j
    by_cases h6 : j < 6
    · have h : j = 0 ∨ j = 1 ∨ j = 2 ∨ j = 3 ∨ j = 4 ∨ j = 5 := by omega
      have cpj := cp j h6
      clear cp cg
      rcases h with rfl | rfl | rfl | rfl | rfl | rfl
      all_goals simp only [Nat.reduceAdd, Nat.zero_add] at cpj
      · obtain rfl : x = 0 := by simpa using hxj
        clear hxj hx0 hx1 hx2 hx3 hx4 hx5
        have hx0 : ∀ W, (Instr.index 102 (.agg #[.int .u16 (a 0), .int .u16 (a 1), .int .u16 (a 2), .int .u16 (a 3), .int .u16 (a 4), .int .u16 (a 5)]) (.int .i64 0)).run Tryz.prog W = .ok (.int .u16 (a 0)) W := fun W => rfl
        go_wp2_with (go_at_call 91; ((with_reducible refine (cpj _).mono ?_); rintro e w9 ⟨rfl, rfl⟩))
        exact ⟨⟨1, 1, by omega, rfl, by go_num, rfl, (by first | trivial | rfl)⟩, by simp [intOf]⟩
      · obtain rfl : x = 1 := by simpa using hxj
        clear hxj hx0 hx1 hx2 hx3 hx4 hx5
        have hx1 : ∀ W, (Instr.index 102 (.agg #[.int .u16 (a 0), .int .u16 (a 1), .int .u16 (a 2), .int .u16 (a 3), .int .u16 (a 4), .int .u16 (a 5)]) (.int .i64 1)).run Tryz.prog W = .ok (.int .u16 (a 1)) W := fun W => rfl
        go_wp2_with (go_at_call 91; ((with_reducible refine (cpj _).mono ?_); rintro e w9 ⟨rfl, rfl⟩))
        exact ⟨⟨2, 2, by omega, rfl, by go_num, rfl, (by first | trivial | rfl)⟩, by simp [intOf]⟩
      · obtain rfl : x = 2 := by simpa using hxj
        clear hxj hx0 hx1 hx2 hx3 hx4 hx5
        have hx2 : ∀ W, (Instr.index 102 (.agg #[.int .u16 (a 0), .int .u16 (a 1), .int .u16 (a 2), .int .u16 (a 3), .int .u16 (a 4), .int .u16 (a 5)]) (.int .i64 2)).run Tryz.prog W = .ok (.int .u16 (a 2)) W := fun W => rfl
        go_wp2_with (go_at_call 91; ((with_reducible refine (cpj _).mono ?_); rintro e w9 ⟨rfl, rfl⟩))
        exact ⟨⟨3, 3, by omega, rfl, by go_num, rfl, (by first | trivial | rfl)⟩, by simp [intOf]⟩
      · obtain rfl : x = 3 := by simpa using hxj
        clear hxj hx0 hx1 hx2 hx3 hx4 hx5
        have hx3 : ∀ W, (Instr.index 102 (.agg #[.int .u16 (a 0), .int .u16 (a 1), .int .u16 (a 2), .int .u16 (a 3), .int .u16 (a 4), .int .u16 (a 5)]) (.int .i64 3)).run Tryz.prog W = .ok (.int .u16 (a 3)) W := fun W => rfl
        go_wp2_with (go_at_call 91; ((with_reducible refine (cpj _).mono ?_); rintro e w9 ⟨rfl, rfl⟩))
        exact ⟨⟨4, 4, by omega, rfl, by go_num, rfl, (by first | trivial | rfl)⟩, by simp [intOf]⟩
      · obtain rfl : x = 4 := by simpa using hxj
        clear hxj hx0 hx1 hx2 hx3 hx4 hx5
        have hx4 : ∀ W, (Instr.index 102 (.agg #[.int .u16 (a 0), .int .u16 (a 1), .int .u16 (a 2), .int .u16 (a 3), .int .u16 (a 4), .int .u16 (a 5)]) (.int .i64 4)).run Tryz.prog W = .ok (.int .u16 (a 4)) W := fun W => rfl
        go_wp2_with (go_at_call 91; ((with_reducible refine (cpj _).mono ?_); rintro e w9 ⟨rfl, rfl⟩))
        exact ⟨⟨5, 5, by omega, rfl, by go_num, rfl, (by first | trivial | rfl)⟩, by simp [intOf]⟩
      · obtain rfl : x = 5 := by simpa using hxj
        clear hxj hx0 hx1 hx2 hx3 hx4 hx5
        have hx5 : ∀ W, (Instr.index 102 (.agg #[.int .u16 (a 0), .int .u16 (a 1), .int .u16 (a 2), .int .u16 (a 3), .int .u16 (a 4), .int .u16 (a 5)]) (.int .i64 5)).run Tryz.prog W = .ok (.int .u16 (a 5)) W := fun W => rfl
        go_wp2_with (go_at_call 91; ((with_reducible refine (cpj _).mono ?_); rintro e w9 ⟨rfl, rfl⟩))
        exact ⟨⟨6, 6, by omega, rfl, by go_num, rfl, (by first | trivial | rfl)⟩, by simp [intOf]⟩
    · obtain rfl : j = 6 := by omega
      obtain rfl : x = 6 := by simpa using hxj
      clear hxj
      go_wp2_with (go_at_call 20; ((with_reducible refine (cw _ x2).mono ?_); rintro e w9 ⟨A', c', rfl, ho, hB9⟩); have R9 := below_then R2 hB9)
      go_ret
      exact ⟨A', c', rfl, ho.mono R2.size, R9⟩
def bodyB (l : List UInt8) (u t : Tup) : List UInt8 :=
  if t.proto = 6 then (if 18 ≤ l.length then put16 (put16 (put16 l 0 t.sp) 2 t.dp) 16 (patK (get16 (put16 (put16 l 0 t.sp) 2 t.dp) 16) (wdsT u) (wdsT t) 6) else put16 (put16 l 0 t.sp) 2 t.dp)
  else if t.proto = 17 then (if get16 (put16 (put16 l 0 t.sp) 2 t.dp) 6 = 0 then put16 (put16 l 0 t.sp) 2 t.dp
    else if get16 (put16 (put16 (put16 l 0 t.sp) 2 t.dp) 6 (patK (get16 (put16 (put16 l 0 t.sp) 2 t.dp) 6) (wdsT u) (wdsT t) 6)) 6 = 0 then put16 (put16 (put16 (put16 l 0 t.sp) 2 t.dp) 6 (patK (get16 (put16 (put16 l 0 t.sp) 2 t.dp) 6) (wdsT u) (wdsT t) 6)) 6 65535
      else put16 (put16 (put16 l 0 t.sp) 2 t.dp) 6 (patK (get16 (put16 (put16 l 0 t.sp) 2 t.dp) 6) (wdsT u) (wdsT t) 6))
  else if t.proto = 1 then put16 (put16 l 4 t.sp) 2 (patK (get16 (put16 l 4 t.sp) 2) (six u.sp 0 0 0 0 0) (six t.sp 0 0 0 0 0) 6)
  else put16 l 6 t.dp
theorem bodyB_len (l : List UInt8) (u t : Tup) : (bodyB l u t).length = l.length := by
  unfold bodyB
  split
  · split <;> simp [put16_length]
  · split
    · split
      · simp [put16_length]
      · split <;> simp [put16_length]
    · split <;> simp [put16_length]
structure RowPost (w : World) (n : Nat) (L : List UInt8) (e : Ending) (w' : World) : Prop where
  out : ∃ A' c', e = .returned (.slice A' n c') ∧ Own w' w.heap.size 5 A' n c' L ∧ Below w.heap.size w w'
theorem wdsT_bd {t : Tup} (h : t.Ok) : ∀ i, i < 6 → 0 ≤ wdsT t i ∧ wdsT t i ≤ 65535 := by
  obtain ⟨-, h2, h3, h4, h5⟩ := h
  intro i hi
  have : i = 0 ∨ i = 1 ∨ i = 2 ∨ i = 3 ∨ i = 4 ∨ i = 5 := by omega
  rcases this with rfl | rfl | rfl | rfl | rfl | rfl
  · show 0 ≤ t.src / 65536 ∧ t.src / 65536 ≤ 65535; omega
  · show 0 ≤ t.src % 65536 ∧ t.src % 65536 ≤ 65535; omega
  · show 0 ≤ t.dst / 65536 ∧ t.dst / 65536 ≤ 65535; omega
  · show 0 ≤ t.dst % 65536 ∧ t.dst % 65536 ≤ 65535; omega
  · exact h4
  · exact h5
theorem six_bd {x : Int} (h : 0 ≤ x ∧ x ≤ 65535) : ∀ i, i < 6 → 0 ≤ six x 0 0 0 0 0 i ∧ six x 0 0 0 0 0 i ≤ 65535 := by
  intro i hi
  have : i = 0 ∨ i = 1 ∨ i = 2 ∨ i = 3 ∨ i = 4 ∨ i = 5 := by omega
  rcases this with rfl | rfl | rfl | rfl | rfl | rfl
  · exact h
  all_goals exact ⟨by show (0 : Int) ≤ 0; omega, by show (0 : Int) ≤ 65535; omega⟩
theorem body_tcp (A : Option Addr) (n c : Nat) (l : List UInt8) (u t : Tup) (hu : u.Ok) (ht : t.Ok) (w : World) (k1 : Bs w A n c l) (hpr : t.proto = 6) : Calls Tryz.prog 22 #[.slice A n c, (.agg #[.int .u8 (u).proto, .int .u32 (u).src, .int .u32 (u).dst, .int .u16 (u).sp, .int .u16 (u).dp]), (.agg #[.int .u8 (t).proto, .int .u32 (t).src, .int .u32 (t).dst, .int .u16 (t).sp, .int .u16 (t).dp])] w (RowPost w n (bodyB l u t)) := by
  have hB : bodyB l u t = if 18 ≤ l.length then put16 (put16 (put16 l 0 t.sp) 2 t.dp) 16 (patK (get16 (put16 (put16 l 0 t.sp) 2 t.dp) 16) (wdsT u) (wdsT t) 6) else put16 (put16 l 0 t.sp) 2 t.dp := by unfold bodyB; rw [if_pos hpr]
  rw [hB]
  clear hB
  obtain ⟨p0, p1⟩ := ht.sp
  obtain ⟨q0, q1⟩ := ht.dp
  obtain ⟨L1, hL1⟩ : ∃ L, put16 (put16 l 0 t.sp) 2 t.dp = L := ⟨_, rfl⟩
  have hL1l : Hid (L1.length = n) := by unfold Hid; rw [← hL1, put16_length, put16_length, k1.len]
  rw [hL1, k1.len]
  have cu := fun W => tw_any u hu W
  have ct := fun W => tw_any t ht W
  have cr : ∀ A c W, Bs W A n c L1 → Calls Tryz.prog 58 #[.slice A n c, .int .i64 16, .agg #[.int .u16 (u.src / 65536), .int .u16 (u.src % 65536), .int .u16 (u.dst / 65536), .int .u16 (u.dst % 65536), .int .u16 (u.sp), .int .u16 (u.dp)], .agg #[.int .u16 (t.src / 65536), .int .u16 (t.src % 65536), .int .u16 (t.dst / 65536), .int .u16 (t.dst % 65536), .int .u16 (t.sp), .int .u16 (t.dp)]] W (RowPost W n (put16 L1 16 (patK (get16 L1 16) (wdsT u) (wdsT t) 6))) := fun A c W h => by
    refine (repair_any A n c L1 16 (wdsT u) (wdsT t) (wdsT_bd hu) (wdsT_bd ht) W h).mono fun e w' hq => ?_
    obtain ⟨A', c', rfl, h1, h2⟩ := hq
    exact ⟨A', c', rfl, h1, h2⟩
  obtain ⟨X, hX⟩ : ∃ X, put16 L1 16 (patK (get16 L1 16) (wdsT u) (wdsT t) 6) = X := ⟨_, rfl⟩
  rw [hX] at cr
  rw [hX]
  have hXl : Hid (X.length = n) := by unfold Hid; rw [← hX, put16_length]; exact hL1l.out
  obtain ⟨a0, ea0⟩ : ∃ x, u.src / 65536 = x := ⟨_, rfl⟩
  obtain ⟨a1, ea1⟩ : ∃ x, u.src % 65536 = x := ⟨_, rfl⟩
  obtain ⟨a2, ea2⟩ : ∃ x, u.dst / 65536 = x := ⟨_, rfl⟩
  obtain ⟨a3, ea3⟩ : ∃ x, u.dst % 65536 = x := ⟨_, rfl⟩
  obtain ⟨b0, eb0⟩ : ∃ x, t.src / 65536 = x := ⟨_, rfl⟩
  obtain ⟨b1, eb1⟩ : ∃ x, t.src % 65536 = x := ⟨_, rfl⟩
  obtain ⟨b2, eb2⟩ : ∃ x, t.dst / 65536 = x := ⟨_, rfl⟩
  obtain ⟨b3, eb3⟩ : ∃ x, t.dst % 65536 = x := ⟨_, rfl⟩
  simp only [ea0, ea1, ea2, ea3] at cu cr
  simp only [eb0, eb1, eb2, eb3] at ct cr
  clear ea0 ea1 ea2 ea3 eb0 eb1 eb2 eb3
  have hn17 : (t.proto == 17) = false := by rw [hpr]; rfl
  have y6 : (t.proto == 6) = true := by rw [hpr]; rfl
  clear hpr hX hu ht
  replace hL1 := Lib.hid hL1
  obtain ⟨k, hk, w1, hw1, P1, O1, R1⟩ := nwI2 w #[.int .u8 (u).proto, .int .u32 (u).src, .int .u32 (u).dst, .int .u16 (u).sp, .int .u16 (u).dp] 29 #[.int .u8 (t).proto, .int .u32 (t).src, .int .u32 (t).dst, .int .u16 (t).sp, .int .u16 (t).dp] 29
  have Pc1 := P1.cell
  have Oc1 := O1.cell
  have Pl1 := P1.lt
  have Ol1 := O1.lt
  have x1 := (k1).below R1
  by_cases h18 : 18 ≤ n
  · rw [if_pos h18]
    have h18' : (18 : Int) ≤ n := by omega
    clear h18
    go_enter Tryz.func22, Tryz.ntmps22
    go_wp2_with fail
    refine region_txt 7 (by kernel_rfl) (by kernel_rfl) ?_; (iterate 7 (first | (apply ObsK.skip (by rfl)) | (apply ObsK.v (by rfl); (intro wo hT; (repeat (first | (intro v hv; ((obtain ⟨A7, n7, c7, rfl, o7⟩ := hv))) | (intro _ _ k; try have hcv := cv k))); (have oc := (O1.below hT).cell; have xo := x1.below hT; have hsz : w1.heap.size ≤ wo.heap.size := hT.size); refine Goes.mk ?_; go_simp; first | exact goes_v | exact goes_b (by assumption) | (refine goes_enter ?_; first | (go_at_call 20; ((with_reducible refine (put16_any A n c l 0 t.sp p0 p1 wo xo).mono ?_); rintro e w5 ⟨A5, c5, rfl, ho5, hB5⟩); exact ret_p (own_isW ho5 hsz) hB5) | (go_at_call 20; ((with_reducible refine (put16_any A7 n7 c7 _ 2 t.dp q0 q1 wo o7.bs).mono ?_); rintro e w5 ⟨A5, c5, rfl, ho5, hB5⟩); exact ret_p (own_isW ho5 hsz) hB5)))) | (apply ObsK.b (by rfl); (intro wo hT; (repeat (first | (intro v hv; ((obtain ⟨A7, n7, c7, rfl, o7⟩ := hv))) | (intro _ _ k; try have hcv := cv k))); (have oc := (O1.below hT).cell; have xo := x1.below hT; have hsz : w1.heap.size ≤ wo.heap.size := hT.size); refine Goes.mk ?_; go_simp; first | exact goes_v | exact goes_b (by assumption) | (refine goes_enter ?_; first | (go_at_call 20; ((with_reducible refine (put16_any A n c l 0 t.sp p0 p1 wo xo).mono ?_); rintro e w5 ⟨A5, c5, rfl, ho5, hB5⟩); exact ret_p (own_isW ho5 hsz) hB5) | (go_at_call 20; ((with_reducible refine (put16_any A7 n7 c7 _ 2 t.dp q0 q1 wo o7.bs).mono ?_); rintro e w5 ⟨A5, c5, rfl, ho5, hB5⟩); exact ret_p (own_isW ho5 hsz) hB5)))) | (apply ObsK.p (q := isW w1.heap.size _) (by rfl) st_isW; (intro wo hT; (repeat (first | (intro v hv; ((obtain ⟨A7, n7, c7, rfl, o7⟩ := hv))) | (intro _ _ k; try have hcv := cv k))); (have oc := (O1.below hT).cell; have xo := x1.below hT; have hsz : w1.heap.size ≤ wo.heap.size := hT.size); refine Goes.mk ?_; go_simp; first | exact goes_v | exact goes_b (by assumption) | (refine goes_enter ?_; first | (go_at_call 20; ((with_reducible refine (put16_any A n c l 0 t.sp p0 p1 wo xo).mono ?_); rintro e w5 ⟨A5, c5, rfl, ho5, hB5⟩); exact ret_p (own_isW ho5 hsz) hB5) | (go_at_call 20; ((with_reducible refine (put16_any A7 n7 c7 _ 2 t.dp q0 q1 wo o7.bs).mono ?_); rintro e w5 ⟨A5, c5, rfl, ho5, hB5⟩); exact ret_p (own_isW ho5 hsz) hB5)))))); refine ObsK.nil ?_; intro wz hBz; simp only [finOn, List.drop_succ_cons, List.drop_zero, List.drop_nil]
    rintro _ ⟨A2, n2, c2, rfl, o2⟩ _ ⟨A3, n3, c3, rfl, -⟩
    go_simp
    rw [hL1.out] at o2
    have un : n2 = n := by rw [← o2.len]; exact hL1l.out
    subst un
    have P2 := P1.below hBz
    have Pc2 := P2.cell
    clear Pc1
    have O2 := O1.below hBz
    have Oc2 := O2.cell
    clear Oc1
    have x2 := x1.below hBz
    have R2 := below_then R1 hBz
    go_wp2_with fail
    refine region_txt 6 (by kernel_rfl) (by kernel_rfl) ?_; (iterate 6 (first | (apply ObsK.skip (by rfl)) | (apply ObsK.v (by rfl); (intro wo hT; (repeat (first | (intro v hv; (fail)) | (intro _ _ k; try have hcv := cv k))); (have oc := (O2.below hT).cell; have pc := (P2.below hT).cell; have bo := (o2.below hT).bs; have hsz : w1.heap.size ≤ wo.heap.size := Nat.le_trans hBz.size hT.size); refine Goes.mk ?_; go_simp; first | exact goes_v | exact goes_b (by assumption) | (refine goes_enter ?_; first | (go_at_call 59; ((with_reducible refine (cu wo).mono ?_); rintro e w5 ⟨rfl, hD5⟩); exact ret_v hD5) | (go_at_call 59; ((with_reducible refine (ct wo).mono ?_); rintro e w5 ⟨rfl, hD5⟩); exact ret_v hD5) | (go_at_call 58; ((with_reducible refine (cr A2 c2 wo bo).mono ?_); rintro e w5 ⟨⟨A5, c5, rfl, ho5, hB5⟩⟩); exact ret_p (own_isW ho5 hsz) hB5)))) | (apply ObsK.b (by rfl); (intro wo hT; (repeat (first | (intro v hv; (fail)) | (intro _ _ k; try have hcv := cv k))); (have oc := (O2.below hT).cell; have pc := (P2.below hT).cell; have bo := (o2.below hT).bs; have hsz : w1.heap.size ≤ wo.heap.size := Nat.le_trans hBz.size hT.size); refine Goes.mk ?_; go_simp; first | exact goes_v | exact goes_b (by assumption) | (refine goes_enter ?_; first | (go_at_call 59; ((with_reducible refine (cu wo).mono ?_); rintro e w5 ⟨rfl, hD5⟩); exact ret_v hD5) | (go_at_call 59; ((with_reducible refine (ct wo).mono ?_); rintro e w5 ⟨rfl, hD5⟩); exact ret_v hD5) | (go_at_call 58; ((with_reducible refine (cr A2 c2 wo bo).mono ?_); rintro e w5 ⟨⟨A5, c5, rfl, ho5, hB5⟩⟩); exact ret_p (own_isW ho5 hsz) hB5)))) | (apply ObsK.p (q := isW w1.heap.size X) (by rfl) st_isW; (intro wo hT; (repeat (first | (intro v hv; (fail)) | (intro _ _ k; try have hcv := cv k))); (have oc := (O2.below hT).cell; have pc := (P2.below hT).cell; have bo := (o2.below hT).bs; have hsz : w1.heap.size ≤ wo.heap.size := Nat.le_trans hBz.size hT.size); refine Goes.mk ?_; go_simp; first | exact goes_v | exact goes_b (by assumption) | (refine goes_enter ?_; first | (go_at_call 59; ((with_reducible refine (cu wo).mono ?_); rintro e w5 ⟨rfl, hD5⟩); exact ret_v hD5) | (go_at_call 59; ((with_reducible refine (ct wo).mono ?_); rintro e w5 ⟨rfl, hD5⟩); exact ret_v hD5) | (go_at_call 58; ((with_reducible refine (cr A2 c2 wo bo).mono ?_); rintro e w5 ⟨⟨A5, c5, rfl, ho5, hB5⟩⟩); exact ret_p (own_isW ho5 hsz) hB5)))))); refine ObsK.nil ?_; intro wz hBz; simp only [finOn, List.drop_succ_cons, List.drop_zero, List.drop_nil]
    rintro _ ⟨A3, n3, c3, rfl, o3⟩
    go_simp
    go_wp2_with fail
    go_ret
    have u3 : n3 = n2 := by rw [← o3.len]; exact hXl.out
    subst u3
    exact ⟨A3, c3, rfl, o3.mono R1.size, below_then R2 hBz⟩
  · rw [if_neg h18]
    have h18' : ¬ (18 : Int) ≤ n := by omega
    clear h18
    go_enter Tryz.func22, Tryz.ntmps22
    go_wp2_with fail
    refine region_txt 7 (by kernel_rfl) (by kernel_rfl) ?_; (iterate 7 (first | (apply ObsK.skip (by rfl)) | (apply ObsK.v (by rfl); (intro wo hT; (repeat (first | (intro v hv; ((obtain ⟨A7, n7, c7, rfl, o7⟩ := hv))) | (intro _ _ k; try have hcv := cv k))); (have oc := (O1.below hT).cell; have xo := x1.below hT; have hsz : w1.heap.size ≤ wo.heap.size := hT.size); refine Goes.mk ?_; go_simp; first | exact goes_v | exact goes_b (by assumption) | (refine goes_enter ?_; first | (go_at_call 20; ((with_reducible refine (put16_any A n c l 0 t.sp p0 p1 wo xo).mono ?_); rintro e w5 ⟨A5, c5, rfl, ho5, hB5⟩); exact ret_p (own_isW ho5 hsz) hB5) | (go_at_call 20; ((with_reducible refine (put16_any A7 n7 c7 _ 2 t.dp q0 q1 wo o7.bs).mono ?_); rintro e w5 ⟨A5, c5, rfl, ho5, hB5⟩); exact ret_p (own_isW ho5 hsz) hB5)))) | (apply ObsK.b (by rfl); (intro wo hT; (repeat (first | (intro v hv; ((obtain ⟨A7, n7, c7, rfl, o7⟩ := hv))) | (intro _ _ k; try have hcv := cv k))); (have oc := (O1.below hT).cell; have xo := x1.below hT; have hsz : w1.heap.size ≤ wo.heap.size := hT.size); refine Goes.mk ?_; go_simp; first | exact goes_v | exact goes_b (by assumption) | (refine goes_enter ?_; first | (go_at_call 20; ((with_reducible refine (put16_any A n c l 0 t.sp p0 p1 wo xo).mono ?_); rintro e w5 ⟨A5, c5, rfl, ho5, hB5⟩); exact ret_p (own_isW ho5 hsz) hB5) | (go_at_call 20; ((with_reducible refine (put16_any A7 n7 c7 _ 2 t.dp q0 q1 wo o7.bs).mono ?_); rintro e w5 ⟨A5, c5, rfl, ho5, hB5⟩); exact ret_p (own_isW ho5 hsz) hB5)))) | (apply ObsK.p (q := isW w1.heap.size _) (by rfl) st_isW; (intro wo hT; (repeat (first | (intro v hv; ((obtain ⟨A7, n7, c7, rfl, o7⟩ := hv))) | (intro _ _ k; try have hcv := cv k))); (have oc := (O1.below hT).cell; have xo := x1.below hT; have hsz : w1.heap.size ≤ wo.heap.size := hT.size); refine Goes.mk ?_; go_simp; first | exact goes_v | exact goes_b (by assumption) | (refine goes_enter ?_; first | (go_at_call 20; ((with_reducible refine (put16_any A n c l 0 t.sp p0 p1 wo xo).mono ?_); rintro e w5 ⟨A5, c5, rfl, ho5, hB5⟩); exact ret_p (own_isW ho5 hsz) hB5) | (go_at_call 20; ((with_reducible refine (put16_any A7 n7 c7 _ 2 t.dp q0 q1 wo o7.bs).mono ?_); rintro e w5 ⟨A5, c5, rfl, ho5, hB5⟩); exact ret_p (own_isW ho5 hsz) hB5)))))); refine ObsK.nil ?_; intro wz hBz; simp only [finOn, List.drop_succ_cons, List.drop_zero, List.drop_nil]
    rintro _ ⟨A2, n2, c2, rfl, o2⟩ _ ⟨A3, n3, c3, rfl, -⟩
    go_simp
    rw [hL1.out] at o2
    have un : n2 = n := by rw [← o2.len]; exact hL1l.out
    subst un
    have P2 := P1.below hBz
    have Pc2 := P2.cell
    clear Pc1
    have O2 := O1.below hBz
    have Oc2 := O2.cell
    clear Oc1
    have x2 := x1.below hBz
    have R2 := below_then R1 hBz
    go_wp2_with fail
    go_ret
    exact ⟨A2, c2, rfl, o2.mono R1.size, R2⟩
theorem body_udp (A : Option Addr) (n c : Nat) (l : List UInt8) (u t : Tup) (hu : u.Ok) (ht : t.Ok) (w : World) (k1 : Bs w A n c l) (hpr : t.proto = 17) : Calls Tryz.prog 22 #[.slice A n c, (.agg #[.int .u8 (u).proto, .int .u32 (u).src, .int .u32 (u).dst, .int .u16 (u).sp, .int .u16 (u).dp]), (.agg #[.int .u8 (t).proto, .int .u32 (t).src, .int .u32 (t).dst, .int .u16 (t).sp, .int .u16 (t).dp])] w (RowPost w n (bodyB l u t)) := by
  have hB : bodyB l u t = if get16 (put16 (put16 l 0 t.sp) 2 t.dp) 6 = 0 then put16 (put16 l 0 t.sp) 2 t.dp
    else if get16 (put16 (put16 (put16 l 0 t.sp) 2 t.dp) 6 (patK (get16 (put16 (put16 l 0 t.sp) 2 t.dp) 6) (wdsT u) (wdsT t) 6)) 6 = 0 then put16 (put16 (put16 (put16 l 0 t.sp) 2 t.dp) 6 (patK (get16 (put16 (put16 l 0 t.sp) 2 t.dp) 6) (wdsT u) (wdsT t) 6)) 6 65535
      else put16 (put16 (put16 l 0 t.sp) 2 t.dp) 6 (patK (get16 (put16 (put16 l 0 t.sp) 2 t.dp) 6) (wdsT u) (wdsT t) 6) := by unfold bodyB; rw [if_neg (by omega), if_pos hpr]
  rw [hB]
  clear hB
  obtain ⟨p0, p1⟩ := ht.sp
  obtain ⟨q0, q1⟩ := ht.dp
  obtain ⟨L1, hL1⟩ : ∃ L, put16 (put16 l 0 t.sp) 2 t.dp = L := ⟨_, rfl⟩
  have hL1l : Hid (L1.length = n) := by unfold Hid; rw [← hL1, put16_length, put16_length, k1.len]
  rw [hL1]
  have cu := fun W => tw_any u hu W
  have ct := fun W => tw_any t ht W
  have cr : ∀ A c W, Bs W A n c L1 → Calls Tryz.prog 58 #[.slice A n c, .int .i64 6, .agg #[.int .u16 (u.src / 65536), .int .u16 (u.src % 65536), .int .u16 (u.dst / 65536), .int .u16 (u.dst % 65536), .int .u16 (u.sp), .int .u16 (u.dp)], .agg #[.int .u16 (t.src / 65536), .int .u16 (t.src % 65536), .int .u16 (t.dst / 65536), .int .u16 (t.dst % 65536), .int .u16 (t.sp), .int .u16 (t.dp)]] W (RowPost W n (put16 L1 6 (patK (get16 L1 6) (wdsT u) (wdsT t) 6))) := fun A c W h => by
    refine (repair_any A n c L1 6 (wdsT u) (wdsT t) (wdsT_bd hu) (wdsT_bd ht) W h).mono fun e w' hq => ?_
    obtain ⟨A', c', rfl, h1, h2⟩ := hq
    exact ⟨A', c', rfl, h1, h2⟩
  obtain ⟨X, hX⟩ : ∃ X, put16 L1 6 (patK (get16 L1 6) (wdsT u) (wdsT t) 6) = X := ⟨_, rfl⟩
  rw [hX] at cr
  rw [hX]
  have hXl : Hid (X.length = n) := by unfold Hid; rw [← hX, put16_length]; exact hL1l.out
  obtain ⟨a0, ea0⟩ : ∃ x, u.src / 65536 = x := ⟨_, rfl⟩
  obtain ⟨a1, ea1⟩ : ∃ x, u.src % 65536 = x := ⟨_, rfl⟩
  obtain ⟨a2, ea2⟩ : ∃ x, u.dst / 65536 = x := ⟨_, rfl⟩
  obtain ⟨a3, ea3⟩ : ∃ x, u.dst % 65536 = x := ⟨_, rfl⟩
  obtain ⟨b0, eb0⟩ : ∃ x, t.src / 65536 = x := ⟨_, rfl⟩
  obtain ⟨b1, eb1⟩ : ∃ x, t.src % 65536 = x := ⟨_, rfl⟩
  obtain ⟨b2, eb2⟩ : ∃ x, t.dst / 65536 = x := ⟨_, rfl⟩
  obtain ⟨b3, eb3⟩ : ∃ x, t.dst % 65536 = x := ⟨_, rfl⟩
  simp only [ea0, ea1, ea2, ea3] at cu cr
  simp only [eb0, eb1, eb2, eb3] at ct cr
  clear ea0 ea1 ea2 ea3 eb0 eb1 eb2 eb3
  have hn6 : (t.proto == 6) = false := by rw [hpr]; rfl
  have y17 : (t.proto == 17) = true := by rw [hpr]; rfl
  clear hpr hX hu ht
  replace hL1 := Lib.hid hL1
  have cg := fun A c W h => get16_any A n c L1 6 W h
  have cx := fun A c W h => get16_any A n c X 6 W h
  have cf := fun A c W h => put16_any A n c X 6 65535 (by omega) (by omega) W h
  obtain ⟨g, hg⟩ : ∃ g, get16 L1 6 = g := ⟨_, rfl⟩
  obtain ⟨z, hz⟩ : ∃ g, get16 X 6 = g := ⟨_, rfl⟩
  rw [hg] at cg
  rw [hz] at cx
  rw [hg, hz]
  clear hg hz
  obtain ⟨k, hk, w1, hw1, P1, O1, R1⟩ := nwI2 w #[.int .u8 (u).proto, .int .u32 (u).src, .int .u32 (u).dst, .int .u16 (u).sp, .int .u16 (u).dp] 29 #[.int .u8 (t).proto, .int .u32 (t).src, .int .u32 (t).dst, .int .u16 (t).sp, .int .u16 (t).dp] 29
  have Pc1 := P1.cell
  have Oc1 := O1.cell
  have Pl1 := P1.lt
  have Ol1 := O1.lt
  have x1 := (k1).below R1
  by_cases hg0 : g = 0
  · subst hg0
    rw [if_pos rfl]
    go_enter Tryz.func22, Tryz.ntmps22
    go_wp2_with fail
    refine region_txt 7 (by kernel_rfl) (by kernel_rfl) ?_; (iterate 7 (first | (apply ObsK.skip (by rfl)) | (apply ObsK.v (by rfl); (intro wo hT; (repeat (first | (intro v hv; ((obtain ⟨A7, n7, c7, rfl, o7⟩ := hv))) | (intro _ _ k; try have hcv := cv k))); (have oc := (O1.below hT).cell; have xo := x1.below hT; have hsz : w1.heap.size ≤ wo.heap.size := hT.size); refine Goes.mk ?_; go_simp; first | exact goes_v | exact goes_b (by assumption) | (refine goes_enter ?_; first | (go_at_call 20; ((with_reducible refine (put16_any A n c l 0 t.sp p0 p1 wo xo).mono ?_); rintro e w5 ⟨A5, c5, rfl, ho5, hB5⟩); exact ret_p (own_isW ho5 hsz) hB5) | (go_at_call 20; ((with_reducible refine (put16_any A7 n7 c7 _ 2 t.dp q0 q1 wo o7.bs).mono ?_); rintro e w5 ⟨A5, c5, rfl, ho5, hB5⟩); exact ret_p (own_isW ho5 hsz) hB5)))) | (apply ObsK.b (by rfl); (intro wo hT; (repeat (first | (intro v hv; ((obtain ⟨A7, n7, c7, rfl, o7⟩ := hv))) | (intro _ _ k; try have hcv := cv k))); (have oc := (O1.below hT).cell; have xo := x1.below hT; have hsz : w1.heap.size ≤ wo.heap.size := hT.size); refine Goes.mk ?_; go_simp; first | exact goes_v | exact goes_b (by assumption) | (refine goes_enter ?_; first | (go_at_call 20; ((with_reducible refine (put16_any A n c l 0 t.sp p0 p1 wo xo).mono ?_); rintro e w5 ⟨A5, c5, rfl, ho5, hB5⟩); exact ret_p (own_isW ho5 hsz) hB5) | (go_at_call 20; ((with_reducible refine (put16_any A7 n7 c7 _ 2 t.dp q0 q1 wo o7.bs).mono ?_); rintro e w5 ⟨A5, c5, rfl, ho5, hB5⟩); exact ret_p (own_isW ho5 hsz) hB5)))) | (apply ObsK.p (q := isW w1.heap.size _) (by rfl) st_isW; (intro wo hT; (repeat (first | (intro v hv; ((obtain ⟨A7, n7, c7, rfl, o7⟩ := hv))) | (intro _ _ k; try have hcv := cv k))); (have oc := (O1.below hT).cell; have xo := x1.below hT; have hsz : w1.heap.size ≤ wo.heap.size := hT.size); refine Goes.mk ?_; go_simp; first | exact goes_v | exact goes_b (by assumption) | (refine goes_enter ?_; first | (go_at_call 20; ((with_reducible refine (put16_any A n c l 0 t.sp p0 p1 wo xo).mono ?_); rintro e w5 ⟨A5, c5, rfl, ho5, hB5⟩); exact ret_p (own_isW ho5 hsz) hB5) | (go_at_call 20; ((with_reducible refine (put16_any A7 n7 c7 _ 2 t.dp q0 q1 wo o7.bs).mono ?_); rintro e w5 ⟨A5, c5, rfl, ho5, hB5⟩); exact ret_p (own_isW ho5 hsz) hB5)))))); refine ObsK.nil ?_; intro wz hBz; simp only [finOn, List.drop_succ_cons, List.drop_zero, List.drop_nil]
    rintro _ ⟨A2, n2, c2, rfl, o2⟩ _ ⟨A3, n3, c3, rfl, -⟩
    go_simp
    rw [hL1.out] at o2
    have un : n2 = n := by rw [← o2.len]; exact hL1l.out
    subst un
    have P2 := P1.below hBz
    have Pc2 := P2.cell
    clear Pc1
    have O2 := O1.below hBz
    have Oc2 := O2.cell
    clear Oc1
    have x2 := x1.below hBz
    have R2 := below_then R1 hBz
    go_wp2_with (go_at_call 60; ((with_reducible refine (cg A2 c2 wz o2.bs).mono ?_); rintro e w3 ⟨rfl, hD3⟩); have hB3 := hD3.bel; have o3 := o2.below hB3; have R3 := below_then R2 hB3)
    go_ret
    exact ⟨A2, c2, rfl, o3.mono R1.size, R3⟩
  · rw [if_neg hg0]
    have hgb : (g != 0) = true := by simpa using hg0
    clear hg0
    by_cases hz0 : z = 0
    · subst hz0
      rw [if_pos rfl]
      go_enter Tryz.func22, Tryz.ntmps22
      go_wp2_with fail
      refine region_txt 7 (by kernel_rfl) (by kernel_rfl) ?_; (iterate 7 (first | (apply ObsK.skip (by rfl)) | (apply ObsK.v (by rfl); (intro wo hT; (repeat (first | (intro v hv; ((obtain ⟨A7, n7, c7, rfl, o7⟩ := hv))) | (intro _ _ k; try have hcv := cv k))); (have oc := (O1.below hT).cell; have xo := x1.below hT; have hsz : w1.heap.size ≤ wo.heap.size := hT.size); refine Goes.mk ?_; go_simp; first | exact goes_v | exact goes_b (by assumption) | (refine goes_enter ?_; first | (go_at_call 20; ((with_reducible refine (put16_any A n c l 0 t.sp p0 p1 wo xo).mono ?_); rintro e w5 ⟨A5, c5, rfl, ho5, hB5⟩); exact ret_p (own_isW ho5 hsz) hB5) | (go_at_call 20; ((with_reducible refine (put16_any A7 n7 c7 _ 2 t.dp q0 q1 wo o7.bs).mono ?_); rintro e w5 ⟨A5, c5, rfl, ho5, hB5⟩); exact ret_p (own_isW ho5 hsz) hB5)))) | (apply ObsK.b (by rfl); (intro wo hT; (repeat (first | (intro v hv; ((obtain ⟨A7, n7, c7, rfl, o7⟩ := hv))) | (intro _ _ k; try have hcv := cv k))); (have oc := (O1.below hT).cell; have xo := x1.below hT; have hsz : w1.heap.size ≤ wo.heap.size := hT.size); refine Goes.mk ?_; go_simp; first | exact goes_v | exact goes_b (by assumption) | (refine goes_enter ?_; first | (go_at_call 20; ((with_reducible refine (put16_any A n c l 0 t.sp p0 p1 wo xo).mono ?_); rintro e w5 ⟨A5, c5, rfl, ho5, hB5⟩); exact ret_p (own_isW ho5 hsz) hB5) | (go_at_call 20; ((with_reducible refine (put16_any A7 n7 c7 _ 2 t.dp q0 q1 wo o7.bs).mono ?_); rintro e w5 ⟨A5, c5, rfl, ho5, hB5⟩); exact ret_p (own_isW ho5 hsz) hB5)))) | (apply ObsK.p (q := isW w1.heap.size _) (by rfl) st_isW; (intro wo hT; (repeat (first | (intro v hv; ((obtain ⟨A7, n7, c7, rfl, o7⟩ := hv))) | (intro _ _ k; try have hcv := cv k))); (have oc := (O1.below hT).cell; have xo := x1.below hT; have hsz : w1.heap.size ≤ wo.heap.size := hT.size); refine Goes.mk ?_; go_simp; first | exact goes_v | exact goes_b (by assumption) | (refine goes_enter ?_; first | (go_at_call 20; ((with_reducible refine (put16_any A n c l 0 t.sp p0 p1 wo xo).mono ?_); rintro e w5 ⟨A5, c5, rfl, ho5, hB5⟩); exact ret_p (own_isW ho5 hsz) hB5) | (go_at_call 20; ((with_reducible refine (put16_any A7 n7 c7 _ 2 t.dp q0 q1 wo o7.bs).mono ?_); rintro e w5 ⟨A5, c5, rfl, ho5, hB5⟩); exact ret_p (own_isW ho5 hsz) hB5)))))); refine ObsK.nil ?_; intro wz hBz; simp only [finOn, List.drop_succ_cons, List.drop_zero, List.drop_nil]
      rintro _ ⟨A2, n2, c2, rfl, o2⟩ _ ⟨A3, n3, c3, rfl, -⟩
      go_simp
      rw [hL1.out] at o2
      have un : n2 = n := by rw [← o2.len]; exact hL1l.out
      subst un
      have P2 := P1.below hBz
      have Pc2 := P2.cell
      clear Pc1
      have O2 := O1.below hBz
      have Oc2 := O2.cell
      clear Oc1
      have x2 := x1.below hBz
      have R2 := below_then R1 hBz
      go_wp2_with (go_at_call 60; ((with_reducible refine (cg A2 c2 wz o2.bs).mono ?_); rintro e w3 ⟨rfl, hD3⟩); have hB3 := hD3.bel)
      have hsz3 := hB3.size
      have o2 := o2.below hB3
      have P2 := P2.below hB3
      have O2 := O2.below hB3
      have R2 := below_then R2 hB3
      have hBz := hBz.trans (hB3.mono hBz.size)
      refine region_txt 6 (by kernel_rfl) (by kernel_rfl) ?_; (iterate 6 (first | (apply ObsK.skip (by rfl)) | (apply ObsK.v (by rfl); (intro wo hT; (repeat (first | (intro v hv; (fail)) | (intro _ _ k; try have hcv := cv k))); (have oc := (O2.below hT).cell; have pc := (P2.below hT).cell; have bo := (o2.below hT).bs; have hsz : w1.heap.size ≤ wo.heap.size := Nat.le_trans hBz.size hT.size); refine Goes.mk ?_; go_simp; first | exact goes_v | exact goes_b (by assumption) | (refine goes_enter ?_; first | (go_at_call 59; ((with_reducible refine (cu wo).mono ?_); rintro e w5 ⟨rfl, hD5⟩); exact ret_v hD5) | (go_at_call 59; ((with_reducible refine (ct wo).mono ?_); rintro e w5 ⟨rfl, hD5⟩); exact ret_v hD5) | (go_at_call 58; ((with_reducible refine (cr A2 c2 wo bo).mono ?_); rintro e w5 ⟨⟨A5, c5, rfl, ho5, hB5⟩⟩); exact ret_p (own_isW ho5 hsz) hB5)))) | (apply ObsK.b (by rfl); (intro wo hT; (repeat (first | (intro v hv; (fail)) | (intro _ _ k; try have hcv := cv k))); (have oc := (O2.below hT).cell; have pc := (P2.below hT).cell; have bo := (o2.below hT).bs; have hsz : w1.heap.size ≤ wo.heap.size := Nat.le_trans hBz.size hT.size); refine Goes.mk ?_; go_simp; first | exact goes_v | exact goes_b (by assumption) | (refine goes_enter ?_; first | (go_at_call 59; ((with_reducible refine (cu wo).mono ?_); rintro e w5 ⟨rfl, hD5⟩); exact ret_v hD5) | (go_at_call 59; ((with_reducible refine (ct wo).mono ?_); rintro e w5 ⟨rfl, hD5⟩); exact ret_v hD5) | (go_at_call 58; ((with_reducible refine (cr A2 c2 wo bo).mono ?_); rintro e w5 ⟨⟨A5, c5, rfl, ho5, hB5⟩⟩); exact ret_p (own_isW ho5 hsz) hB5)))) | (apply ObsK.p (q := isW w1.heap.size X) (by rfl) st_isW; (intro wo hT; (repeat (first | (intro v hv; (fail)) | (intro _ _ k; try have hcv := cv k))); (have oc := (O2.below hT).cell; have pc := (P2.below hT).cell; have bo := (o2.below hT).bs; have hsz : w1.heap.size ≤ wo.heap.size := Nat.le_trans hBz.size hT.size); refine Goes.mk ?_; go_simp; first | exact goes_v | exact goes_b (by assumption) | (refine goes_enter ?_; first | (go_at_call 59; ((with_reducible refine (cu wo).mono ?_); rintro e w5 ⟨rfl, hD5⟩); exact ret_v hD5) | (go_at_call 59; ((with_reducible refine (ct wo).mono ?_); rintro e w5 ⟨rfl, hD5⟩); exact ret_v hD5) | (go_at_call 58; ((with_reducible refine (cr A2 c2 wo bo).mono ?_); rintro e w5 ⟨⟨A5, c5, rfl, ho5, hB5⟩⟩); exact ret_p (own_isW ho5 hsz) hB5)))))); refine ObsK.nil ?_; intro wz hBz; simp only [finOn, List.drop_succ_cons, List.drop_zero, List.drop_nil]
      rintro _ ⟨A3, n3, c3, rfl, o3⟩
      go_simp
      have u3 : n3 = n2 := by rw [← o3.len]; exact hXl.out
      subst u3
      have R4 := below_then R2 hBz
      go_wp2_with (first
        | (go_at_call 60; ((with_reducible refine (cx A3 c3 wz o3.bs).mono ?_); rintro e w5 ⟨rfl, hD5⟩); have hB5 := hD5.bel; have o5 := o3.below hB5; have R5 := below_then R4 hB5)
        | (go_at_call 20; ((with_reducible refine (cf A3 c3 w5 o5.bs).mono ?_); rintro e w6 ⟨A6, c6, rfl, o6, hB6⟩); have R6 := below_then R5 hB6))
      go_ret
      exact ⟨A6, c6, rfl, o6.mono R5.size, R6⟩
    · rw [if_neg hz0]
      have hzb : (z == 0) = false := by simpa using hz0
      clear hz0
      go_enter Tryz.func22, Tryz.ntmps22
      go_wp2_with fail
      refine region_txt 7 (by kernel_rfl) (by kernel_rfl) ?_; (iterate 7 (first | (apply ObsK.skip (by rfl)) | (apply ObsK.v (by rfl); (intro wo hT; (repeat (first | (intro v hv; ((obtain ⟨A7, n7, c7, rfl, o7⟩ := hv))) | (intro _ _ k; try have hcv := cv k))); (have oc := (O1.below hT).cell; have xo := x1.below hT; have hsz : w1.heap.size ≤ wo.heap.size := hT.size); refine Goes.mk ?_; go_simp; first | exact goes_v | exact goes_b (by assumption) | (refine goes_enter ?_; first | (go_at_call 20; ((with_reducible refine (put16_any A n c l 0 t.sp p0 p1 wo xo).mono ?_); rintro e w5 ⟨A5, c5, rfl, ho5, hB5⟩); exact ret_p (own_isW ho5 hsz) hB5) | (go_at_call 20; ((with_reducible refine (put16_any A7 n7 c7 _ 2 t.dp q0 q1 wo o7.bs).mono ?_); rintro e w5 ⟨A5, c5, rfl, ho5, hB5⟩); exact ret_p (own_isW ho5 hsz) hB5)))) | (apply ObsK.b (by rfl); (intro wo hT; (repeat (first | (intro v hv; ((obtain ⟨A7, n7, c7, rfl, o7⟩ := hv))) | (intro _ _ k; try have hcv := cv k))); (have oc := (O1.below hT).cell; have xo := x1.below hT; have hsz : w1.heap.size ≤ wo.heap.size := hT.size); refine Goes.mk ?_; go_simp; first | exact goes_v | exact goes_b (by assumption) | (refine goes_enter ?_; first | (go_at_call 20; ((with_reducible refine (put16_any A n c l 0 t.sp p0 p1 wo xo).mono ?_); rintro e w5 ⟨A5, c5, rfl, ho5, hB5⟩); exact ret_p (own_isW ho5 hsz) hB5) | (go_at_call 20; ((with_reducible refine (put16_any A7 n7 c7 _ 2 t.dp q0 q1 wo o7.bs).mono ?_); rintro e w5 ⟨A5, c5, rfl, ho5, hB5⟩); exact ret_p (own_isW ho5 hsz) hB5)))) | (apply ObsK.p (q := isW w1.heap.size _) (by rfl) st_isW; (intro wo hT; (repeat (first | (intro v hv; ((obtain ⟨A7, n7, c7, rfl, o7⟩ := hv))) | (intro _ _ k; try have hcv := cv k))); (have oc := (O1.below hT).cell; have xo := x1.below hT; have hsz : w1.heap.size ≤ wo.heap.size := hT.size); refine Goes.mk ?_; go_simp; first | exact goes_v | exact goes_b (by assumption) | (refine goes_enter ?_; first | (go_at_call 20; ((with_reducible refine (put16_any A n c l 0 t.sp p0 p1 wo xo).mono ?_); rintro e w5 ⟨A5, c5, rfl, ho5, hB5⟩); exact ret_p (own_isW ho5 hsz) hB5) | (go_at_call 20; ((with_reducible refine (put16_any A7 n7 c7 _ 2 t.dp q0 q1 wo o7.bs).mono ?_); rintro e w5 ⟨A5, c5, rfl, ho5, hB5⟩); exact ret_p (own_isW ho5 hsz) hB5)))))); refine ObsK.nil ?_; intro wz hBz; simp only [finOn, List.drop_succ_cons, List.drop_zero, List.drop_nil]
      rintro _ ⟨A2, n2, c2, rfl, o2⟩ _ ⟨A3, n3, c3, rfl, -⟩
      go_simp
      rw [hL1.out] at o2
      have un : n2 = n := by rw [← o2.len]; exact hL1l.out
      subst un
      have P2 := P1.below hBz
      have Pc2 := P2.cell
      clear Pc1
      have O2 := O1.below hBz
      have Oc2 := O2.cell
      clear Oc1
      have x2 := x1.below hBz
      have R2 := below_then R1 hBz
      go_wp2_with (go_at_call 60; ((with_reducible refine (cg A2 c2 wz o2.bs).mono ?_); rintro e w3 ⟨rfl, hD3⟩); have hB3 := hD3.bel)
      have hsz3 := hB3.size
      have o2 := o2.below hB3
      have P2 := P2.below hB3
      have O2 := O2.below hB3
      have R2 := below_then R2 hB3
      have hBz := hBz.trans (hB3.mono hBz.size)
      refine region_txt 6 (by kernel_rfl) (by kernel_rfl) ?_; (iterate 6 (first | (apply ObsK.skip (by rfl)) | (apply ObsK.v (by rfl); (intro wo hT; (repeat (first | (intro v hv; (fail)) | (intro _ _ k; try have hcv := cv k))); (have oc := (O2.below hT).cell; have pc := (P2.below hT).cell; have bo := (o2.below hT).bs; have hsz : w1.heap.size ≤ wo.heap.size := Nat.le_trans hBz.size hT.size); refine Goes.mk ?_; go_simp; first | exact goes_v | exact goes_b (by assumption) | (refine goes_enter ?_; first | (go_at_call 59; ((with_reducible refine (cu wo).mono ?_); rintro e w5 ⟨rfl, hD5⟩); exact ret_v hD5) | (go_at_call 59; ((with_reducible refine (ct wo).mono ?_); rintro e w5 ⟨rfl, hD5⟩); exact ret_v hD5) | (go_at_call 58; ((with_reducible refine (cr A2 c2 wo bo).mono ?_); rintro e w5 ⟨⟨A5, c5, rfl, ho5, hB5⟩⟩); exact ret_p (own_isW ho5 hsz) hB5)))) | (apply ObsK.b (by rfl); (intro wo hT; (repeat (first | (intro v hv; (fail)) | (intro _ _ k; try have hcv := cv k))); (have oc := (O2.below hT).cell; have pc := (P2.below hT).cell; have bo := (o2.below hT).bs; have hsz : w1.heap.size ≤ wo.heap.size := Nat.le_trans hBz.size hT.size); refine Goes.mk ?_; go_simp; first | exact goes_v | exact goes_b (by assumption) | (refine goes_enter ?_; first | (go_at_call 59; ((with_reducible refine (cu wo).mono ?_); rintro e w5 ⟨rfl, hD5⟩); exact ret_v hD5) | (go_at_call 59; ((with_reducible refine (ct wo).mono ?_); rintro e w5 ⟨rfl, hD5⟩); exact ret_v hD5) | (go_at_call 58; ((with_reducible refine (cr A2 c2 wo bo).mono ?_); rintro e w5 ⟨⟨A5, c5, rfl, ho5, hB5⟩⟩); exact ret_p (own_isW ho5 hsz) hB5)))) | (apply ObsK.p (q := isW w1.heap.size X) (by rfl) st_isW; (intro wo hT; (repeat (first | (intro v hv; (fail)) | (intro _ _ k; try have hcv := cv k))); (have oc := (O2.below hT).cell; have pc := (P2.below hT).cell; have bo := (o2.below hT).bs; have hsz : w1.heap.size ≤ wo.heap.size := Nat.le_trans hBz.size hT.size); refine Goes.mk ?_; go_simp; first | exact goes_v | exact goes_b (by assumption) | (refine goes_enter ?_; first | (go_at_call 59; ((with_reducible refine (cu wo).mono ?_); rintro e w5 ⟨rfl, hD5⟩); exact ret_v hD5) | (go_at_call 59; ((with_reducible refine (ct wo).mono ?_); rintro e w5 ⟨rfl, hD5⟩); exact ret_v hD5) | (go_at_call 58; ((with_reducible refine (cr A2 c2 wo bo).mono ?_); rintro e w5 ⟨⟨A5, c5, rfl, ho5, hB5⟩⟩); exact ret_p (own_isW ho5 hsz) hB5)))))); refine ObsK.nil ?_; intro wz hBz; simp only [finOn, List.drop_succ_cons, List.drop_zero, List.drop_nil]
      rintro _ ⟨A3, n3, c3, rfl, o3⟩
      go_simp
      have u3 : n3 = n2 := by rw [← o3.len]; exact hXl.out
      subst u3
      have R4 := below_then R2 hBz
      go_wp2_with (go_at_call 60; ((with_reducible refine (cx A3 c3 wz o3.bs).mono ?_); rintro e w5 ⟨rfl, hD5⟩); have hB5 := hD5.bel; have o5 := o3.below hB5; have R5 := below_then R4 hB5)
      go_ret
      exact ⟨A3, c3, rfl, o5.mono R1.size, R5⟩
theorem body_icmp (A : Option Addr) (n c : Nat) (l : List UInt8) (u t : Tup) (hu : u.Ok) (ht : t.Ok) (w : World) (k1 : Bs w A n c l) (hpr : t.proto = 1) : Calls Tryz.prog 22 #[.slice A n c, (.agg #[.int .u8 (u).proto, .int .u32 (u).src, .int .u32 (u).dst, .int .u16 (u).sp, .int .u16 (u).dp]), (.agg #[.int .u8 (t).proto, .int .u32 (t).src, .int .u32 (t).dst, .int .u16 (t).sp, .int .u16 (t).dp])] w (RowPost w n (bodyB l u t)) := by
  have hB : bodyB l u t = put16 (put16 l 4 t.sp) 2 (patK (get16 (put16 l 4 t.sp) 2) (six u.sp 0 0 0 0 0) (six t.sp 0 0 0 0 0) 6) := by unfold bodyB; rw [if_neg (by omega), if_neg (by omega), if_pos hpr]
  rw [hB]
  clear hB
  obtain ⟨p0, p1⟩ := ht.sp
  obtain ⟨L1, hL1⟩ : ∃ L, put16 l 4 t.sp = L := ⟨_, rfl⟩
  have hL1l : Hid (L1.length = n) := by unfold Hid; rw [← hL1, put16_length, k1.len]
  rw [hL1]
  have cr : ∀ A c W, Bs W A n c L1 → Calls Tryz.prog 58 #[.slice A n c, .int .i64 2, .agg #[.int .u16 u.sp, .int .u16 0, .int .u16 0, .int .u16 0, .int .u16 0, .int .u16 0], .agg #[.int .u16 t.sp, .int .u16 0, .int .u16 0, .int .u16 0, .int .u16 0, .int .u16 0]] W (RowPost W n (put16 L1 2 (patK (get16 L1 2) (six u.sp 0 0 0 0 0) (six t.sp 0 0 0 0 0) 6))) := fun A c W h => by
    refine (repair_any A n c L1 2 (six u.sp 0 0 0 0 0) (six t.sp 0 0 0 0 0) (six_bd hu.sp) (six_bd ht.sp) W h).mono fun e w' hq => ?_
    obtain ⟨A', c', rfl, h1, h2⟩ := hq
    exact ⟨A', c', rfl, h1, h2⟩
  obtain ⟨X, hX⟩ : ∃ X, put16 L1 2 (patK (get16 L1 2) (six u.sp 0 0 0 0 0) (six t.sp 0 0 0 0 0) 6) = X := ⟨_, rfl⟩
  rw [hX] at cr
  rw [hX]
  have hXl : Hid (X.length = n) := by unfold Hid; rw [← hX, put16_length]; exact hL1l.out
  have hn6 : (t.proto == 6) = false := by rw [hpr]; rfl
  have hn17 : (t.proto == 17) = false := by rw [hpr]; rfl
  have y1 : (t.proto == 1) = true := by rw [hpr]; rfl
  clear hpr hX hu ht
  replace hL1 := Lib.hid hL1
  obtain ⟨k, hk, w1, hw1, P1, O1, R1⟩ := nwI2 w #[.int .u8 (u).proto, .int .u32 (u).src, .int .u32 (u).dst, .int .u16 (u).sp, .int .u16 (u).dp] 29 #[.int .u8 (t).proto, .int .u32 (t).src, .int .u32 (t).dst, .int .u16 (t).sp, .int .u16 (t).dp] 29
  have Pc1 := P1.cell
  have Oc1 := O1.cell
  have Pl1 := P1.lt
  have Ol1 := O1.lt
  have x1 := (k1).below R1
  go_enter Tryz.func22, Tryz.ntmps22
  go_wp2_with fail
  refine region_txt 11 (by kernel_rfl) (by kernel_rfl) ?_; (iterate 11 (first | (apply ObsK.skip (by rfl)) | (apply ObsK.v (by rfl); (intro wo hT; (repeat (first | (intro v hv; ((obtain ⟨A7, n7, c7, rfl, o7⟩ := hv))) | (intro _ _ k; try have hcv := cv k))); (have oc := (O1.below hT).cell; have pc := (P1.below hT).cell; have xo := x1.below hT; have hsz : w1.heap.size ≤ wo.heap.size := hT.size); refine Goes.mk ?_; go_simp; first | exact goes_v | exact goes_b (by assumption) | (refine goes_enter ?_; first | (go_at_call 20; ((with_reducible refine (put16_any A n c l 4 t.sp p0 p1 wo xo).mono ?_); rintro e w5 ⟨A5, c5, rfl, ho5, hB5⟩); rw [hL1.out] at ho5; exact ret_p (own_isW ho5 hsz) hB5) | (have u7 : n7 = n := (by rw [← o7.len]; exact hL1l.out); subst u7; (go_at_call 58; ((with_reducible refine (cr A7 c7 wo o7.bs).mono ?_); rintro e w5 ⟨⟨A5, c5, rfl, ho5, hB5⟩⟩); exact ret_p (own_isW ho5 hsz) hB5))))) | (apply ObsK.b (by rfl); (intro wo hT; (repeat (first | (intro v hv; ((obtain ⟨A7, n7, c7, rfl, o7⟩ := hv))) | (intro _ _ k; try have hcv := cv k))); (have oc := (O1.below hT).cell; have pc := (P1.below hT).cell; have xo := x1.below hT; have hsz : w1.heap.size ≤ wo.heap.size := hT.size); refine Goes.mk ?_; go_simp; first | exact goes_v | exact goes_b (by assumption) | (refine goes_enter ?_; first | (go_at_call 20; ((with_reducible refine (put16_any A n c l 4 t.sp p0 p1 wo xo).mono ?_); rintro e w5 ⟨A5, c5, rfl, ho5, hB5⟩); rw [hL1.out] at ho5; exact ret_p (own_isW ho5 hsz) hB5) | (have u7 : n7 = n := (by rw [← o7.len]; exact hL1l.out); subst u7; (go_at_call 58; ((with_reducible refine (cr A7 c7 wo o7.bs).mono ?_); rintro e w5 ⟨⟨A5, c5, rfl, ho5, hB5⟩⟩); exact ret_p (own_isW ho5 hsz) hB5))))) | (apply ObsK.p (q := isW w1.heap.size _) (by rfl) st_isW; (intro wo hT; (repeat (first | (intro v hv; ((obtain ⟨A7, n7, c7, rfl, o7⟩ := hv))) | (intro _ _ k; try have hcv := cv k))); (have oc := (O1.below hT).cell; have pc := (P1.below hT).cell; have xo := x1.below hT; have hsz : w1.heap.size ≤ wo.heap.size := hT.size); refine Goes.mk ?_; go_simp; first | exact goes_v | exact goes_b (by assumption) | (refine goes_enter ?_; first | (go_at_call 20; ((with_reducible refine (put16_any A n c l 4 t.sp p0 p1 wo xo).mono ?_); rintro e w5 ⟨A5, c5, rfl, ho5, hB5⟩); rw [hL1.out] at ho5; exact ret_p (own_isW ho5 hsz) hB5) | (have u7 : n7 = n := (by rw [← o7.len]; exact hL1l.out); subst u7; (go_at_call 58; ((with_reducible refine (cr A7 c7 wo o7.bs).mono ?_); rintro e w5 ⟨⟨A5, c5, rfl, ho5, hB5⟩⟩); exact ret_p (own_isW ho5 hsz) hB5))))))); refine ObsK.nil ?_; intro wz hBz; simp only [finOn, List.drop_succ_cons, List.drop_zero, List.drop_nil]
  rintro _ ⟨A2, n2, c2, rfl, o2⟩ _ ⟨A3, n3, c3, rfl, -⟩
  go_simp
  go_wp2_with fail
  go_ret
  have u3 : n2 = n := by rw [← o2.len]; exact hXl.out
  subst u3
  exact ⟨A2, c2, rfl, o2.mono R1.size, below_then R1 hBz⟩
theorem body_gre (A : Option Addr) (n c : Nat) (l : List UInt8) (u t : Tup) (hu : u.Ok) (ht : t.Ok) (w : World) (k1 : Bs w A n c l) (h6 : t.proto ≠ 6) (h17 : t.proto ≠ 17) (h1 : t.proto ≠ 1) : Calls Tryz.prog 22 #[.slice A n c, (.agg #[.int .u8 (u).proto, .int .u32 (u).src, .int .u32 (u).dst, .int .u16 (u).sp, .int .u16 (u).dp]), (.agg #[.int .u8 (t).proto, .int .u32 (t).src, .int .u32 (t).dst, .int .u16 (t).sp, .int .u16 (t).dp])] w (RowPost w n (bodyB l u t)) := by
  have hB : bodyB l u t = put16 l 6 t.dp := by unfold bodyB; rw [if_neg h6, if_neg h17, if_neg h1]
  rw [hB]
  obtain ⟨q0, q1⟩ := ht.dp
  have hn6 : (t.proto == 6) = false := by simpa using h6
  have hn17 : (t.proto == 17) = false := by simpa using h17
  have hn1 : (t.proto == 1) = false := by simpa using h1
  have cp := fun W h => put16_any A n c l 6 t.dp q0 q1 W h
  clear hB h6 h17 h1 hu ht
  obtain ⟨k, hk, w1, hw1, P1, O1, R1⟩ := nwI2 w #[.int .u8 (u).proto, .int .u32 (u).src, .int .u32 (u).dst, .int .u16 (u).sp, .int .u16 (u).dp] 29 #[.int .u8 (t).proto, .int .u32 (t).src, .int .u32 (t).dst, .int .u16 (t).sp, .int .u16 (t).dp] 29
  have Pc1 := P1.cell
  have Oc1 := O1.cell
  have Pl1 := P1.lt
  have Ol1 := O1.lt
  have x1 := (k1).below R1
  go_enter Tryz.func22, Tryz.ntmps22
  go_wp2_with (go_at_call 20; ((with_reducible refine (cp w1 x1).mono ?_); rintro e w5 ⟨A5, c5, rfl, ho5, hB5⟩))
  go_ret
  exact ⟨A5, c5, rfl, ho5.mono R1.size, below_then R1 hB5⟩
theorem body_any (A : Option Addr) (n c : Nat) (l : List UInt8) (u t : Tup) (hu : u.Ok) (ht : t.Ok) (w : World) (k1 : Bs w A n c l) : Calls Tryz.prog 22 #[.slice A n c, (.agg #[.int .u8 (u).proto, .int .u32 (u).src, .int .u32 (u).dst, .int .u16 (u).sp, .int .u16 (u).dp]), (.agg #[.int .u8 (t).proto, .int .u32 (t).src, .int .u32 (t).dst, .int .u16 (t).sp, .int .u16 (t).dp])] w (RowPost w n (bodyB l u t)) := by
  by_cases h6 : t.proto = 6
  · exact body_tcp A n c l u t hu ht w k1 h6
  by_cases h17 : t.proto = 17
  · exact body_udp A n c l u t hu ht w k1 h17
  by_cases h1 : t.proto = 1
  · exact body_icmp A n c l u t hu ht w k1 h1
  exact body_gre A n c l u t hu ht w k1 h6 h17 h1
set_option maxHeartbeats 4000000
def fault (e : Int) : Value := .iface 126 (.agg #[.int .i64 e])
theorem may_yes (e : Int) (w : World) : Calls Tryz.prog 104 #[.bool true, .int .i64 e] w fun r w' => r = .returned (.tuple #[]) ∧ w = w' := by
  go_enter Tryz.func104, Tryz.ntmps104
  go_wp2
  go_end0
  exact ⟨rfl, rfl⟩
theorem may_no (e : Int) (w : World) : Calls Tryz.prog 104 #[.bool false, .int .i64 e] w fun r w' => r = .panicked [{ v := fault e, recovered := false }] ∧ w = w' := by
  go_enter Tryz.func104, Tryz.ntmps104
  go_wp2
  exact ⟨rfl, rfl, rfl⟩
structure LenPost (w0 : World) (k r : Nat) (cs : Array Value) (tr : TypeId) (A : Option Addr) (n c : Nat) (l : List UInt8) (q : Bool) (e : Ending) (w' : World) : Prop where
  bel : Below w0.heap.size w0 w'
  ok : lenE q l = 0 → e = .returned (.tuple #[]) ∧ Blk w' k #[.int .i64 (hdOf l), .int .i64 (alOf l), .slice A n c] 131 ∧ Blk w' r cs tr
  no : lenE q l ≠ 0 → e = .panicked [{ v := fault (lenE q l), recovered := false }]
theorem lenPost_no {w0 : World} {k r : Nat} {cs : Array Value} {tr : TypeId} {A : Option Addr} {n c : Nat} {l : List UInt8} {q : Bool} {w' : World} (x : Int) (hE : lenE q l = x) (hx : x ≠ 0) (hB : Below w0.heap.size w0 w') :
    LenPost w0 k r cs tr A n c l q (.panicked [{ v := fault x, recovered := false }]) w' := ⟨hB, fun h => absurd (hE.symm.trans h) hx, fun _ => by rw [hE]⟩
theorem lengths_any (w0 : World) (k : Nat) (A : Option Addr) (n c : Nat) (l : List UInt8) (q : Bool) (w : World) (hb : Bs w0 A n c l) (T : Below w0.heap.size w0 w) (hk : w0.heap.size ≤ k) (K : Blk w k #[.int .i64 0, .int .i64 0, .slice A n c] 131) (r : Nat) (cs : Array Value) (tr : TypeId) (hr : r ≠ k) (R : Blk w r cs tr) :
    Calls Tryz.prog 103 #[.pointer (some ⟨k, 0, none⟩), .bool q] w (LenPost w0 k r cs tr A n c l q) := by
  have hlen := hb.len
  have hmax := hb.max
  have kc := K.cell
  go_enter Tryz.func103, Tryz.ntmps103
  go_wp2_with fail
  by_cases h1 : (20 : Int) ≤ n
  · rw [decide_eq_true h1]
    obtain ⟨b, off, rfl, hc⟩ := (hb.below T).rd (by omega)
    have c0 := hc 0 (by omega)
    rw [Nat.add_zero] at c0
    have b0 := bt_lo l 0
    have b0' := bt_hi l 0
    have hand := and_u8_15 b0 b0'
    have hn0 : (0 : Int) < n := by omega
    clear hc
    refine (may_yes _ _).mono ?_
    rintro e w' ⟨rfl, rfl⟩
    go_wp2_with fail
    by_cases h2 : bt l 0 / 16 = 4
    · rw [show (bt l 0 / 16 == 4) = true from by simpa using h2]
      refine (may_yes _ _).mono ?_
      rintro e w' ⟨rfl, rfl⟩
      have K1 : Blk (w.setCell ⟨k, 0, none⟩ (.int .i64 (4 * (bt l 0 % 16)))) k #[.int .i64 (4 * (bt l 0 % 16)), .int .i64 0, .slice (some ⟨b, off, none⟩) n c] 131 := K.set_ 0 _
      have T1 := T.setCell (p := ⟨k, 0, none⟩) hk (.int .i64 (4 * (bt l 0 % 16)))
      have R1 := R.far ⟨k, 0, none⟩ (Ne.symm hr) (.int .i64 (4 * (bt l 0 % 16)))
      have kc1 := K1.cell
      go_wp2_with fail
      clear kc hand c0
      obtain ⟨w1, hw1⟩ : ∃ w1, w.setCell ⟨k, 0, none⟩ (.int .i64 (4 * (bt l 0 % 16))) = w1 := ⟨_, rfl⟩
      rw [hw1] at K1 T1 kc1 R1 ⊢
      clear hw1 T K R
      obtain ⟨h, hh⟩ : ∃ h, hdOf l = h := ⟨_, rfl⟩
      have hh' : 4 * (bt l 0 % 16) = h := hh
      rw [hh'] at K1 kc1 ⊢
      have h0 : 0 ≤ h := by omega
      have h60 : h ≤ 60 := by omega
      by_cases h3 : (20 : Int) ≤ h
      · rw [decide_eq_true h3]
        refine (may_yes _ _).mono ?_
        rintro e w' ⟨rfl, rfl⟩
        go_wp2_with fail
        refine region_txt 11 (by kernel_rfl) (by kernel_rfl) ?_; (iterate 11 (first | (apply ObsK.skip (by rfl)) | (apply ObsK.v (by rfl); (intro wo hT; (repeat (first | (intro _ _ k; try have hcv := cv k))); (have kc2 := (K1.below hT).cell); refine Goes.mk ?_; go_simp; first | exact goes_v | exact goes_b (by assumption) | (refine goes_enter ?_; first | fail))) | (apply ObsK.b (by rfl); (intro wo hT; (repeat (first | (intro _ _ k; try have hcv := cv k))); (have kc2 := (K1.below hT).cell); refine Goes.mk ?_; go_simp; first | exact goes_v | exact goes_b (by assumption) | (refine goes_enter ?_; first | fail))))); refine ObsK.nil ?_; intro wz hBz; simp only [finOn, List.drop_succ_cons, List.drop_zero, List.drop_nil]
        go_simp
        have K2 := K1.below hBz
        have T2 := below_then T1 hBz
        have R2 := R1.below hBz
        clear kc1 K1 hBz T1 R1
        go_wp2_with fail
        obtain ⟨g, hg⟩ : ∃ g, get16 l 2 = g := ⟨_, rfl⟩
        have g0 : 0 ≤ g := by rw [← hg]; exact get16_lo l 2
        have g1 : g ≤ 65535 := by rw [← hg]; exact get16_hi l 2
        by_cases h4 : h ≤ (n : Int)
        · rw [decide_eq_true h4]
          refine (may_yes _ _).mono ?_
          rintro e w' ⟨rfl, rfl⟩
          have kd2 := K2.cell
          go_wp2_with (go_at_call 60; ((with_reducible refine (get16_any (some ⟨b, off, none⟩) n c l 2 wz (hb.below T2)).mono ?_); rintro e w3 ⟨rfl, hD⟩); have K3 := K2.below hD.bel; have T3 := below_then T2 hD.bel; have kc3 := K3.cell)
          have K4 : Blk (w3.setCell ⟨k, 1, none⟩ (.int .i64 g)) k #[.int .i64 h, .int .i64 g, .slice (some ⟨b, off, none⟩) n c] 131 := K3.set_ 1 _
          have T4 := T3.setCell (p := ⟨k, 1, none⟩) hk (.int .i64 g)
          have R4 := (R2.below hD.bel).far ⟨k, 1, none⟩ (Ne.symm hr) (.int .i64 g)
          clear kc3 kd2 R2
          obtain ⟨w4, hw4⟩ : ∃ w4, w3.setCell ⟨k, 1, none⟩ (.int .i64 g) = w4 := ⟨_, rfl⟩
          rw [hw4] at K4 T4 R4 ⊢
          clear hw4 K2 T2 K3 T3 hD
          refine region_txt 11 (by kernel_rfl) (by kernel_rfl) ?_; (iterate 11 (first | (apply ObsK.skip (by rfl)) | (apply ObsK.v (by rfl); (intro wo hT; (repeat (first | (intro _ _ k; try have hcv := cv k))); (have kc2 := (K4.below hT).cell); refine Goes.mk ?_; go_simp; first | exact goes_v | exact goes_b (by assumption) | (refine goes_enter ?_; first | fail))) | (apply ObsK.b (by rfl); (intro wo hT; (repeat (first | (intro _ _ k; try have hcv := cv k))); (have kc2 := (K4.below hT).cell); refine Goes.mk ?_; go_simp; first | exact goes_v | exact goes_b (by assumption) | (refine goes_enter ?_; first | fail))))); refine ObsK.nil ?_; intro wz hBz; simp only [finOn, List.drop_succ_cons, List.drop_zero, List.drop_nil]
          go_simp
          have K5 := K4.below hBz
          have T5 := below_then T4 hBz
          have R5 := R4.below hBz
          clear K4 hBz T4 R4
          go_wp2_with fail
          by_cases h5 : h ≤ g
          · rw [decide_eq_true h5]
            refine (may_yes _ _).mono ?_
            rintro e w' ⟨rfl, rfl⟩
            go_wp2_with fail
            by_cases h6 : q = false ∧ (n : Int) < g
            · obtain ⟨rfl, h6⟩ := h6
              have h6' : ¬ g ≤ (n : Int) := by omega
              refine region_txt 14 (by kernel_rfl) (by kernel_rfl) ?_; (iterate 14 (first | (apply ObsK.skip (by rfl)) | (apply ObsK.v (by rfl); (intro wo hT; (repeat (first | (intro _ _ k; try have hcv := cv k))); (have kc2 := (K5.below hT).cell); refine Goes.mk ?_; go_simp; first | exact goes_v | exact goes_b (by assumption) | (refine goes_enter ?_; first | fail))) | (apply ObsK.b (by rfl); (intro wo hT; (repeat (first | (intro _ _ k; try have hcv := cv k))); (have kc2 := (K5.below hT).cell); refine Goes.mk ?_; go_simp; first | exact goes_v | exact goes_b (by assumption) | (refine goes_enter ?_; first | fail))))); refine ObsK.nil ?_; intro wz hBz; simp only [finOn, List.drop_succ_cons, List.drop_zero, List.drop_nil]
              go_simp
              have T6 := below_then T5 hBz
              go_wp2_with fail
              refine (may_no _ _).mono ?_
              rintro e w' ⟨rfl, rfl⟩
              exact ⟨rfl, lenPost_no 3 (by unfold lenE; rw [hh, hg, if_neg (by omega), if_neg (by omega), if_neg (by omega), if_neg (by omega), if_neg (by omega), if_pos ⟨rfl, by omega⟩]) (by omega) T6⟩
            · have hE : lenE q l = 0 := by
                unfold lenE
                rw [hh, hg, if_neg (by omega), if_neg (by omega), if_neg (by omega), if_neg (by omega), if_neg (by omega), if_neg (by rw [hlen]; exact h6)]
              have HE := Lib.hid hE
              clear hE
              have hal : Hid (alOf l = if (n : Int) < g then (n : Int) else g) := by unfold Hid alOf; rw [hg, hlen]
              cases q with
              | true =>
                clear h6
                refine region_txt 14 (by kernel_rfl) (by kernel_rfl) ?_; (iterate 14 (first | (apply ObsK.skip (by rfl)) | (apply ObsK.v (by rfl); (intro wo hT; (repeat (first | (intro _ _ k; try have hcv := cv k))); (have kc2 := (K5.below hT).cell); refine Goes.mk ?_; go_simp; first | exact goes_v | exact goes_b (by assumption) | (refine goes_enter ?_; first | fail))) | (apply ObsK.b (by rfl); (intro wo hT; (repeat (first | (intro _ _ k; try have hcv := cv k))); (have kc2 := (K5.below hT).cell); refine Goes.mk ?_; go_simp; first | exact goes_v | exact goes_b (by assumption) | (refine goes_enter ?_; first | fail))))); refine ObsK.nil ?_; intro wz hBz; simp only [finOn, List.drop_succ_cons, List.drop_zero, List.drop_nil]
                go_simp
                have K6 := K5.below hBz
                have T6 := below_then T5 hBz
                have R6 := R5.below hBz
                clear K5 T5 hBz R5
                go_wp2_with fail
                refine (may_yes _ _).mono ?_
                rintro e w' ⟨rfl, rfl⟩
                go_wp2_with fail
                obtain ⟨m, hm⟩ : ∃ m : Int, (if (n : Int) < g then (n : Int) else g) = m := ⟨_, rfl⟩
                have hmin : ∀ W : World, (Builtin.min_ #[3, 3] 3 #[.int .i64 g, .int .i64 n]).run Tryz.prog W = .ok (.int .i64 m) W := fun W => by rw [← hm]; rfl
                have HM : Hid (alOf l = m) := hal.out.trans hm
                clear hm hal
                refine region_txt 15 (by kernel_rfl) (by kernel_rfl) ?_; (iterate 15 (first | (apply ObsK.skip (by rfl)) | (apply ObsK.v (by rfl); (intro wo hT; (repeat (first | (intro _ _ k; try have hcv := cv k))); (have kc2 := (K6.below hT).cell); refine Goes.mk ?_; go_simp; first | exact goes_v | exact goes_b (by assumption) | (refine goes_enter ?_; first | fail))) | (apply ObsK.b (by rfl); (intro wo hT; (repeat (first | (intro _ _ k; try have hcv := cv k))); (have kc2 := (K6.below hT).cell); refine Goes.mk ?_; go_simp; first | exact goes_v | exact goes_b (by assumption) | (refine goes_enter ?_; first | fail))))); refine ObsK.nil ?_; intro wz hBz; simp only [finOn, List.drop_succ_cons, List.drop_zero, List.drop_nil]
                go_simp
                have K7 := K6.below hBz
                have T7 := below_then T6 hBz
                have R7 := R6.below hBz
                have kc7 := K7.cell
                clear K6 T6 hBz R6
                go_wp2_with fail
                go_end0
                refine ⟨T7.setCell (p := ⟨k, 1, none⟩) hk _, fun _ => ⟨rfl, ?_, R7.far ⟨k, 1, none⟩ (Ne.symm hr) _⟩, fun hx => absurd HE.out hx⟩
                rw [hh, HM.out]
                exact K7.set_ 1 _
              | false =>
                have h7 : g ≤ (n : Int) := by
                  rcases Int.lt_or_le (n : Int) g with hx | hx
                  · exact absurd ⟨rfl, hx⟩ h6
                  · exact hx
                clear h6
                refine region_txt 14 (by kernel_rfl) (by kernel_rfl) ?_; (iterate 14 (first | (apply ObsK.skip (by rfl)) | (apply ObsK.v (by rfl); (intro wo hT; (repeat (first | (intro _ _ k; try have hcv := cv k))); (have kc2 := (K5.below hT).cell); refine Goes.mk ?_; go_simp; first | exact goes_v | exact goes_b (by assumption) | (refine goes_enter ?_; first | fail))) | (apply ObsK.b (by rfl); (intro wo hT; (repeat (first | (intro _ _ k; try have hcv := cv k))); (have kc2 := (K5.below hT).cell); refine Goes.mk ?_; go_simp; first | exact goes_v | exact goes_b (by assumption) | (refine goes_enter ?_; first | fail))))); refine ObsK.nil ?_; intro wz hBz; simp only [finOn, List.drop_succ_cons, List.drop_zero, List.drop_nil]
                go_simp
                have K6 := K5.below hBz
                have T6 := below_then T5 hBz
                have R6 := R5.below hBz
                clear K5 T5 hBz R5
                go_wp2_with fail
                refine (may_yes _ _).mono ?_
                rintro e w' ⟨rfl, rfl⟩
                go_wp2_with fail
                obtain ⟨m, hm⟩ : ∃ m : Int, (if (n : Int) < g then (n : Int) else g) = m := ⟨_, rfl⟩
                have hmin : ∀ W : World, (Builtin.min_ #[3, 3] 3 #[.int .i64 g, .int .i64 n]).run Tryz.prog W = .ok (.int .i64 m) W := fun W => by rw [← hm]; rfl
                have HM : Hid (alOf l = m) := hal.out.trans hm
                clear hm hal
                refine region_txt 15 (by kernel_rfl) (by kernel_rfl) ?_; (iterate 15 (first | (apply ObsK.skip (by rfl)) | (apply ObsK.v (by rfl); (intro wo hT; (repeat (first | (intro _ _ k; try have hcv := cv k))); (have kc2 := (K6.below hT).cell); refine Goes.mk ?_; go_simp; first | exact goes_v | exact goes_b (by assumption) | (refine goes_enter ?_; first | fail))) | (apply ObsK.b (by rfl); (intro wo hT; (repeat (first | (intro _ _ k; try have hcv := cv k))); (have kc2 := (K6.below hT).cell); refine Goes.mk ?_; go_simp; first | exact goes_v | exact goes_b (by assumption) | (refine goes_enter ?_; first | fail))))); refine ObsK.nil ?_; intro wz hBz; simp only [finOn, List.drop_succ_cons, List.drop_zero, List.drop_nil]
                go_simp
                have K7 := K6.below hBz
                have T7 := below_then T6 hBz
                have R7 := R6.below hBz
                have kc7 := K7.cell
                clear K6 T6 hBz R6
                go_wp2_with fail
                go_end0
                refine ⟨T7.setCell (p := ⟨k, 1, none⟩) hk _, fun _ => ⟨rfl, ?_, R7.far ⟨k, 1, none⟩ (Ne.symm hr) _⟩, fun hx => absurd HE.out hx⟩
                rw [hh, HM.out]
                exact K7.set_ 1 _
          · rw [decide_eq_false h5]
            refine (may_no _ _).mono ?_
            rintro e w' ⟨rfl, rfl⟩
            exact ⟨rfl, lenPost_no 4 (by unfold lenE; rw [hh, hg, if_neg (by omega), if_neg (by omega), if_neg (by omega), if_neg (by omega), if_pos (by omega)]) (by omega) T5⟩
        · rw [decide_eq_false h4]
          refine (may_no _ _).mono ?_
          rintro e w' ⟨rfl, rfl⟩
          exact ⟨rfl, lenPost_no 3 (by unfold lenE; rw [hh, if_neg (by omega), if_neg (by omega), if_neg (by omega), if_pos (by omega)]) (by omega) T2⟩
      · rw [decide_eq_false h3]
        refine (may_no _ _).mono ?_
        rintro e w' ⟨rfl, rfl⟩
        exact ⟨rfl, lenPost_no 4 (by unfold lenE; rw [hh, if_neg (by omega), if_neg (by omega), if_pos (by omega)]) (by omega) T1⟩
    · rw [show (bt l 0 / 16 == 4) = false from by simpa using h2]
      refine (may_no _ _).mono ?_
      rintro e w' ⟨rfl, rfl⟩
      exact ⟨rfl, lenPost_no 6 (by unfold lenE; rw [if_neg (by omega), if_pos h2]) (by omega) T⟩
  · rw [decide_eq_false h1]
    refine (may_no _ _).mono ?_
    rintro e w' ⟨rfl, rfl⟩
    exact ⟨rfl, lenPost_no 3 (by unfold lenE; rw [if_pos (by omega)]) (by omega) T⟩
set_option maxHeartbeats 8000000
structure PkPost (w0 : World) (q : Bool) (l : List UInt8) (e : Ending) (w' : World) : Prop where
  bel : Below w0.heap.size w0 w'
  ok : rdE q l = 0 → ∃ A1 n1 c1 A2 n2 c2, e = .returned (.agg #[.int .u8 (rdP l).tos, .int .u16 (rdP l).id, .bool (rdP l).keep, .int .u8 (rdP l).ttl, .int .u8 (rdP l).proto, .int .u32 (rdP l).src, .int .u32 (rdP l).dst, .slice A1 n1 c1, .slice A2 n2 c2]) ∧ Bs w' A1 n1 c1 (rdP l).opt ∧ Bs w' A2 n2 c2 (rdP l).dat ∧ (∀ a, A1 = some a → w0.heap.size ≤ a.block) ∧ (∀ a, A2 = some a → w0.heap.size ≤ a.block)
  no : rdE q l ≠ 0 → e = .panicked [{ v := fault (rdE q l), recovered := false }]
theorem pkPost_no {w0 : World} {l : List UInt8} {q : Bool} {w' : World} (x : Int) (hE : rdE q l = x) (hx : x ≠ 0) (hB : Below w0.heap.size w0 w') :
    PkPost w0 q l (.panicked [{ v := fault x, recovered := false }]) w' := ⟨hB, fun h => absurd (hE.symm.trans h) hx, fun _ => by rw [hE]⟩
theorem packet_any (w0 : World) (k : Nat) (A : Option Addr) (n c : Nat) (l : List UInt8) (q : Bool) (w : World) (hb : Bs w0 A n c l) (T : Below w0.heap.size w0 w) (hk : w0.heap.size ≤ k) (K : Blk w k #[.int .i64 0, .int .i64 0, .slice A n c] 131) (le : Int) (hle : le = if q then 8 else 0) :
    Calls Tryz.prog 89 #[.pointer (some ⟨k, 0, none⟩), .bool q, .int .i64 le] w (PkPost w0 q l) := by
  have hlen := hb.len
  have hmax := hb.max
  have hcap := hb.cap
  obtain ⟨i8, hi8, _, hs8, _⟩ := info_parts info_u8
  have HLE := Lib.hid hle
  have le0 : 0 ≤ le := by rw [hle]; split <;> omega
  have le8 : le ≤ 8 := by rw [hle]; split <;> omega
  clear hle
  go_enter Tryz.func89, Tryz.ntmps89
  go_wp2_with fail
  have hkl := K.lt
  have T1 : Below w0.heap.size w0 (w.alloc (.cells #[.int .u8 0, .int .u16 0, .bool false, .int .u8 0, .int .u8 0, .int .u32 0, .int .u32 0, .slice none 0 0, .slice none 0 0] 26)) := T.alloc (by have := T.size; omega) _
  have R1 := blk_new w #[.int .u8 0, .int .u16 0, .bool false, .int .u8 0, .int .u8 0, .int .u32 0, .int .u32 0, .slice none 0 0, .slice none 0 0] 26 _ rfl
  refine (lengths_any w0 k A n c l q _ hb T1 hk (K.alloc _) w.heap.size _ _ (by omega) R1).mono ?_
  intro e w1 hP
  by_cases hE0 : lenE q l = 0
  · obtain ⟨rfl, K1, R2⟩ := hP.ok hE0
    obtain ⟨f1, f2, f3, f4, f5, f6, f7, f8, f9⟩ := len_facts hE0
    have T2 := hP.bel
    clear hP T1 R1
    obtain ⟨b, off, rfl⟩ := hb.some_ (by omega)
    obtain ⟨h, hh⟩ : ∃ h, hdOf l = h := ⟨_, rfl⟩
    obtain ⟨m, hm⟩ : ∃ m, alOf l = m := ⟨_, rfl⟩
    rw [hh] at f3 f4 f5 f7 f8 K1
    rw [hm] at f5 f6 K1
    rw [hlen] at f1 f4 f6
    clear f8 f9 f2
    have hcutA : ∀ W, (Instr.slice 24 (.slice (some ⟨b, off, none⟩) n c) none (some (.int .i64 h)) none).run Tryz.prog W = _ := fun W => cut_h Tryz.underlying24 hi8 hs8 (some ⟨b, off, none⟩) n c .i64 h (by omega) (by omega) W
    obtain ⟨A', n', c', eA, en, ec, hbA⟩ := hb.cutE (lo := 0) (hi := h.toNat) (by omega) (by omega)
    simp only [eA, en, ec] at hcutA
    clear eA en ec
    simp only [List.drop_zero] at hbA
    go_wp2_with fail
    refine region_txt 11 (by kernel_rfl) (by kernel_rfl) ?_; (iterate 11 (first | (apply ObsK.skip (by rfl)) | (apply ObsK.v (by rfl); (intro wo hT; (repeat (first | (intro _ _ k; try have hcv := cv k))); (have kc2 := (K1.below hT).cell); refine Goes.mk ?_; go_simp; first | exact goes_v | exact goes_b (by assumption) | (refine goes_enter ?_; first | (go_at_call 51; ((with_reducible refine (good_any A' n' c' (l.take h.toNat) wo ((hbA.below T2).below hT)).mono ?_); rintro e w2 ⟨rfl, hB2⟩); exact ret_v hB2)))) | (apply ObsK.b (by rfl); (intro wo hT; (repeat (first | (intro _ _ k; try have hcv := cv k))); (have kc2 := (K1.below hT).cell); refine Goes.mk ?_; go_simp; first | exact goes_v | exact goes_b (by assumption) | (refine goes_enter ?_; first | (go_at_call 51; ((with_reducible refine (good_any A' n' c' (l.take h.toNat) wo ((hbA.below T2).below hT)).mono ?_); rintro e w2 ⟨rfl, hB2⟩); exact ret_v hB2)))))); refine ObsK.nil ?_; intro wz hBz; simp only [finOn, List.drop_succ_cons, List.drop_zero, List.drop_nil]
    go_simp
    have K3 := K1.below hBz
    have R3 := R2.below hBz
    have T3 := below_then T2 hBz
    clear hBz K1 R2 T2
    go_wp2_with fail
    obtain ⟨s, hs⟩ : ∃ s, csum (l.take h.toNat) = s := ⟨_, rfl⟩
    rw [hs]
    by_cases h5 : s = 0
    · rw [show (s == 0) = true from by simpa using h5]
      refine (may_yes _ _).mono ?_
      rintro e w' ⟨rfl, rfl⟩
      obtain ⟨f, hf⟩ : ∃ f, get16 l 6 = f := ⟨_, rfl⟩
      have g0 : 0 ≤ f := by rw [← hf]; exact get16_lo l 6
      have g1 : f ≤ 65535 := by rw [← hf]; exact get16_hi l 6
      have ha1 := and_u16_low g0 g1
      have ha2 := and_u16_top g0 g1
      have kc3 := K3.cell
      go_wp2_with (go_at_call 60; ((with_reducible refine (get16_any (some ⟨b, off, none⟩) n c l 6 _ (hb.below T3)).mono ?_); rintro e w4 ⟨rfl, hD⟩); have K4 := K3.below hD.bel; have T4 := below_then T3 hD.bel; have R4 := R3.below hD.bel)
      clear kc3
      by_cases h6 : f % 16384 = 0
      · rw [show (f % 16384 == 0) = true from by simpa using h6]
        refine (may_yes _ _).mono ?_
        rintro e w' ⟨rfl, rfl⟩
        go_wp2_with fail
        by_cases h7 : 32768 ≤ f
        · rw [show (f / 32768 * 32768 == 0) = false from by simp; omega]
          refine (may_no _ _).mono ?_
          rintro e w' ⟨rfl, rfl⟩
          exact ⟨rfl, pkPost_no 4 (by unfold rdE; rw [if_neg (by omega), hh, if_neg (by rw [hs]; omega), hf, if_neg (by omega), if_pos h7]) (by omega) T4⟩
        · rw [show (f / 32768 * 32768 == 0) = true from by simp; omega]
          refine (may_yes _ _).mono ?_
          rintro e w' ⟨rfl, rfl⟩
          go_wp2_with fail
          refine region_txt 13 (by kernel_rfl) (by kernel_rfl) ?_; (iterate 13 (first | (apply ObsK.skip (by rfl)) | (apply ObsK.v (by rfl); (intro wo hT; (repeat (first | (intro _ _ k; try have hcv := cv k))); (have kc2 := (K4.below hT).cell); refine Goes.mk ?_; go_simp; first | exact goes_v | exact goes_b (by assumption) | (refine goes_enter ?_; first | fail))) | (apply ObsK.b (by rfl); (intro wo hT; (repeat (first | (intro _ _ k; try have hcv := cv k))); (have kc2 := (K4.below hT).cell); refine Goes.mk ?_; go_simp; first | exact goes_v | exact goes_b (by assumption) | (refine goes_enter ?_; first | fail))))); refine ObsK.nil ?_; intro wz hBz; simp only [finOn, List.drop_succ_cons, List.drop_zero, List.drop_nil]
          go_simp
          have K5 := K4.below hBz
          have R5 := R4.below hBz
          have T5 := below_then T4 hBz
          clear hBz K4 R4 T4 hD
          go_wp2_with fail
          by_cases h8 : le ≤ m - h
          · rw [decide_eq_true h8]
            refine (may_yes _ _).mono ?_
            rintro e w' ⟨rfl, rfl⟩
            have hE : rdE q l = 0 := by
              unfold rdE
              rw [if_neg (by omega), hh, if_neg (by rw [hs]; omega), hf, if_neg (by omega), if_neg (by omega), hm]
              rw [if_neg]
              rintro ⟨rfl, hx⟩
              have := HLE.out
              simp at this
              omega
            have HE := Lib.hid hE
            clear hE
            have hcutB : ∀ W, (Instr.slice 24 (.slice (some ⟨b, off, none⟩) n c) (some (.int .i64 20)) (some (.int .i64 h)) none).run Tryz.prog W = _ := fun W => cut_lh Tryz.underlying24 hi8 hs8 (some ⟨b, off, none⟩) n c .i64 .i64 20 h (by omega) (by omega) (by omega) W
            obtain ⟨A2, n2, c2, eA, en, ec, hbB⟩ := hb.cutE (lo := 20) (hi := h.toNat) (by omega) (by omega)
            simp only [show (20 : Int).toNat = 20 from rfl, eA, en, ec] at hcutB
            clear eA en ec
            have hcutC : ∀ W, (Instr.slice 24 (.slice (some ⟨b, off, none⟩) n c) (some (.int .i64 h)) (some (.int .i64 m)) none).run Tryz.prog W = _ := fun W => cut_lh Tryz.underlying24 hi8 hs8 (some ⟨b, off, none⟩) n c .i64 .i64 h m (by omega) (by omega) (by omega) W
            obtain ⟨A3, n3, c3, eA, en, ec, hbC⟩ := hb.cutE (lo := h.toNat) (hi := m.toNat) (by omega) (by omega)
            simp only [eA, en, ec] at hcutC
            clear eA en ec
            have HF := Lib.hid hf
            have HH := Lib.hid hh
            have HM := Lib.hid hm
            have x1 : (1 : Int) < n := by omega
            have x8 : (8 : Int) < n := by omega
            have x9 : (9 : Int) < n := by omega
            clear hf hh hm ha1 ha2 hs h5 h6 h7 hcutA
            go_wp2_with fail
            refine region_txt 62 (by kernel_rfl) (by kernel_rfl) ?_; (iterate 62 (first | (apply ObsK.skip (by rfl)) | (apply ObsK.v (by rfl); (intro wo hT; (repeat (first | (intro v hv; ((skip))) | (intro _ _ k; try have hcv := cv k))); (have kc2 := (K5.below hT).cell; have bo := (hb.below T5).below hT; have b1 := bo.at_ (j := 1) (by omega); have b8 := bo.at_ (j := 8) (by omega); have b9 := bo.at_ (j := 9) (by omega); have rl := (R5.below hT).lt); refine Goes.mk ?_; go_simp; first | exact goes_v | exact goes_b (by assumption) | (refine goes_enter ?_; first | (go_at_call 60; ((with_reducible refine (get16_any (some ⟨b, off, none⟩) n c l 4 wo bo).mono ?_); rintro e w2 ⟨rfl, hD2⟩); exact ret_v hD2.bel) | (go_at_call 52; ((with_reducible refine (get32_any (some ⟨b, off, none⟩) n c l 12 wo bo).mono ?_); rintro e w2 ⟨rfl, hD2⟩); exact ret_v hD2.bel) | (go_at_call 52; ((with_reducible refine (get32_any (some ⟨b, off, none⟩) n c l 16 wo bo).mono ?_); rintro e w2 ⟨rfl, hD2⟩); exact ret_v hD2.bel) | (go_at_call 53; ((with_reducible refine (clone_any A2 n2 c2 _ wo ((hbB.below T5).below hT)).mono ?_); rintro e w2 ⟨A9, c9, rfl, ho9, hB9⟩); exact ret_p (own_isF ho9 rl) hB9) | (go_at_call 53; ((with_reducible refine (clone_any A3 n3 c3 _ wo ((hbC.below T5).below hT)).mono ?_); rintro e w2 ⟨A9, c9, rfl, ho9, hB9⟩); exact ret_p (own_isF ho9 rl) hB9)))) | (apply ObsK.b (by rfl); (intro wo hT; (repeat (first | (intro v hv; ((skip))) | (intro _ _ k; try have hcv := cv k))); (have kc2 := (K5.below hT).cell; have bo := (hb.below T5).below hT; have b1 := bo.at_ (j := 1) (by omega); have b8 := bo.at_ (j := 8) (by omega); have b9 := bo.at_ (j := 9) (by omega); have rl := (R5.below hT).lt); refine Goes.mk ?_; go_simp; first | exact goes_v | exact goes_b (by assumption) | (refine goes_enter ?_; first | (go_at_call 60; ((with_reducible refine (get16_any (some ⟨b, off, none⟩) n c l 4 wo bo).mono ?_); rintro e w2 ⟨rfl, hD2⟩); exact ret_v hD2.bel) | (go_at_call 52; ((with_reducible refine (get32_any (some ⟨b, off, none⟩) n c l 12 wo bo).mono ?_); rintro e w2 ⟨rfl, hD2⟩); exact ret_v hD2.bel) | (go_at_call 52; ((with_reducible refine (get32_any (some ⟨b, off, none⟩) n c l 16 wo bo).mono ?_); rintro e w2 ⟨rfl, hD2⟩); exact ret_v hD2.bel) | (go_at_call 53; ((with_reducible refine (clone_any A2 n2 c2 _ wo ((hbB.below T5).below hT)).mono ?_); rintro e w2 ⟨A9, c9, rfl, ho9, hB9⟩); exact ret_p (own_isF ho9 rl) hB9) | (go_at_call 53; ((with_reducible refine (clone_any A3 n3 c3 _ wo ((hbC.below T5).below hT)).mono ?_); rintro e w2 ⟨A9, c9, rfl, ho9, hB9⟩); exact ret_p (own_isF ho9 rl) hB9)))) | (apply ObsK.p (q := isF w.heap.size _ _) (by rfl) st_isF; (intro wo hT; (repeat (first | (intro v hv; ((skip))) | (intro _ _ k; try have hcv := cv k))); (have kc2 := (K5.below hT).cell; have bo := (hb.below T5).below hT; have b1 := bo.at_ (j := 1) (by omega); have b8 := bo.at_ (j := 8) (by omega); have b9 := bo.at_ (j := 9) (by omega); have rl := (R5.below hT).lt); refine Goes.mk ?_; go_simp; first | exact goes_v | exact goes_b (by assumption) | (refine goes_enter ?_; first | (go_at_call 60; ((with_reducible refine (get16_any (some ⟨b, off, none⟩) n c l 4 wo bo).mono ?_); rintro e w2 ⟨rfl, hD2⟩); exact ret_v hD2.bel) | (go_at_call 52; ((with_reducible refine (get32_any (some ⟨b, off, none⟩) n c l 12 wo bo).mono ?_); rintro e w2 ⟨rfl, hD2⟩); exact ret_v hD2.bel) | (go_at_call 52; ((with_reducible refine (get32_any (some ⟨b, off, none⟩) n c l 16 wo bo).mono ?_); rintro e w2 ⟨rfl, hD2⟩); exact ret_v hD2.bel) | (go_at_call 53; ((with_reducible refine (clone_any A2 n2 c2 _ wo ((hbB.below T5).below hT)).mono ?_); rintro e w2 ⟨A9, c9, rfl, ho9, hB9⟩); exact ret_p (own_isF ho9 rl) hB9) | (go_at_call 53; ((with_reducible refine (clone_any A3 n3 c3 _ wo ((hbC.below T5).below hT)).mono ?_); rintro e w2 ⟨A9, c9, rfl, ho9, hB9⟩); exact ret_p (own_isF ho9 rl) hB9)))))); refine ObsK.nil ?_; intro wz hBz; simp only [finOn, List.drop_succ_cons, List.drop_zero, List.drop_nil]
            intro v9 hv9 v10 hv10
            obtain ⟨A9, c9, rfl, k9, a9⟩ := hv9
            obtain ⟨A10, c10, rfl, k10, a10⟩ := hv10
            go_simp
            have R6 := R5.below hBz
            have rc := R6.cell
            have T6 := below_then T5 hBz
            have hwr : w0.heap.size ≤ w.heap.size := T.size
            go_wp2_with fail
            obtain ⟨wf, hwf, S⟩ := store9 R6 (.int .u8 (bt l 1)) (.int .u16 (get16 l 4)) (.bool (f != 0)) (.int .u8 (bt l 8)) (.int .u8 (bt l 9)) (.int .u32 (get32 l 12)) (.int .u32 (get32 l 16)) (.slice A10 n2 c10) (.slice A9 n3 c9)
            rw [hwf]
            have TF := S.bel T6 hwr
            have k9' := S.bs k9 (gt_ne a9)
            have k10' := S.bs k10 (gt_ne a10)
            have kr := S.blk.cell
            clear hwf S R6 rc T6 k9 k10
            have e1 : f = get16 l 6 := HF.out.symm
            have e2 : (rdP l).opt = List.drop 20 (List.take h.toNat l) := by rw [← HH.out]; rfl
            have e3 : (rdP l).dat = List.drop h.toNat (List.take m.toNat l) := by rw [← HH.out, ← HM.out]; rfl
            refine bodyPost_ret (v := .agg #[.int .u8 (bt l 1), .int .u16 (get16 l 4), .bool (f != 0), .int .u8 (bt l 8), .int .u8 (bt l 9), .int .u32 (get32 l 12), .int .u32 (get32 l 16), .slice A10 n2 c10, .slice A9 n3 c9]) (by simp [results, Tryz.results89, go_sem, kr]) rfl ⟨TF, fun _ => ⟨A10, n2, c10, A9, n3, c9, by rw [e1]; rfl, by rw [e2]; exact k10', by rw [e3]; exact k9', fun a e => by have := a10 a e; omega, fun a e => by have := a9 a e; omega⟩, fun hx => absurd HE.out hx⟩
          · rw [decide_eq_false h8]
            refine (may_no _ _).mono ?_
            rintro e w' ⟨rfl, rfl⟩
            have hq : q = true := by
              cases q with
              | true => rfl
              | false => have := HLE.out; simp at this; omega
            have hl8 : le = 8 := by rw [HLE.out, if_pos hq]
            exact ⟨rfl, pkPost_no 3 (by unfold rdE; rw [if_neg (by omega), hh, if_neg (by rw [hs]; omega), hf, if_neg (by omega), if_neg (by omega), hm, if_pos ⟨hq, by omega⟩]) (by omega) T5⟩
      · rw [show (f % 16384 == 0) = false from by simpa using h6]
        refine (may_no _ _).mono ?_
        rintro e w' ⟨rfl, rfl⟩
        exact ⟨rfl, pkPost_no 7 (by unfold rdE; rw [if_neg (by omega), hh, if_neg (by rw [hs]; omega), hf, if_pos h6]) (by omega) T4⟩
    · rw [show (s == 0) = false from by simpa using h5]
      refine (may_no _ _).mono ?_
      rintro e w' ⟨rfl, rfl⟩
      exact ⟨rfl, pkPost_no 5 (by unfold rdE; rw [if_neg (by omega), hh, if_pos (by rw [hs]; exact h5)]) (by omega) T3⟩
  · have hx := hP.no hE0
    subst hx
    exact ⟨rfl, pkPost_no (lenE q l) (by unfold rdE; rw [if_pos hE0]) hE0 hP.bel⟩
set_option maxHeartbeats 4000000
theorem catch_fault (a b : Nat) (x e : Int) (c0 c1 c2 c3 c4 c5 c6 c7 c8 : Value) (w : World) (hab : a ≠ b) (K : Blk w a #[c0, c1, c2, c3, c4, c5, c6, c7, c8] 26) (L : Blk w b #[.int .i64 x] 30) :
    CallsD Tryz.prog 88 #[.pointer (some ⟨a, 0, none⟩), .pointer (some ⟨b, 0, none⟩)] (.panicking [{ v := fault e, recovered := false }]) w fun r u' w' =>
      r = .returned (.tuple #[]) ∧ u' = .panicking [{ v := fault e, recovered := true }] ∧ Blk w' a #[.int .u8 0, .int .u16 0, .bool false, .int .u8 0, .int .u8 0, .int .u32 0, .int .u32 0, .slice none 0 0, .slice none 0 0] 26 ∧ Blk w' b #[.int .i64 e] 30 ∧
        (∀ B w0, Below B w0 w → B ≤ a → B ≤ b → Below B w0 w') := by
  have hta : ∀ (W : World) (v : Value), (Instr.typeAssert (.iface 126 v) 20 126 true).run Tryz.prog W = .ok (.tuple #[v, .bool true]) W := fun W v => by kernel_rfl
  have ka := K.cell
  have kb := L.cell
  have la := K.lt
  have lb := L.lt
  refine callsD_of_wpS Tryz.func88 rfl fun c₀ cs hu => ?_
  apply wpS_seq
  apply wpS_region
  simp [wpOpsS, go_sem, recoverD, hu, Tryz.ntmps88, Exit.thenS, fault]
  refine wpS_of_wp ?_
  simp only [List.size_toArray, List.length_cons, List.length_nil, Nat.reduceAdd, Nat.reduceSub, Array.replicate_succ, Array.replicate_zero, List.push_toArray, List.append_toArray, List.nil_append, List.cons_append, List.setIfInBounds_toArray, List.set_cons_zero, List.set_cons_succ]
  go_wp2_with fail
  have K1 := K.alloc (.cells #[.int .i64 e] 126)
  have L1 := L.alloc (.cells #[.int .i64 e] 126)
  have F1 := blk_new w #[.int .i64 e] 126 _ rfl
  have hB : ∀ B w0, Below B w0 w → B ≤ a → Below B w0 (w.alloc (.cells #[.int .i64 e] 126)) := fun B w0 h hB => h.alloc (by omega) _
  generalize hw1 : w.alloc (.cells #[.int .i64 e] 126) = w1 at *
  obtain ⟨f, hf⟩ : ∃ f, w.heap.size = f := ⟨_, rfl⟩
  rw [hf] at F1 la lb ⊢
  have nfa : a ≠ f := by omega
  have nfb : b ≠ f := by omega
  clear hw1 hf ka kb K L
  have ka := K1.cell
  have kb := L1.cell
  have kf := F1.cell
  have ra : ∀ (W : World) (j : Nat) (v : Value), (W.setCell ⟨a, j, none⟩ v).cell? ⟨f, 0, none⟩ = W.cell? ⟨f, 0, none⟩ := fun W j v => World.cell?_setCell_far W _ _ v nfa
  have rb : ∀ (W : World) (j : Nat) (v : Value), (W.setCell ⟨a, j, none⟩ v).cell? ⟨b, 0, none⟩ = W.cell? ⟨b, 0, none⟩ := fun W j v => World.cell?_setCell_far W _ _ v hab
  go_region
  go_wp2_with fail
  obtain ⟨w2, hw2, S⟩ := store9 K1 (.int .u8 0) (.int .u16 0) (.bool false) (.int .u8 0) (.int .u8 0) (.int .u32 0) (.int .u32 0) (.slice none 0 0) (.slice none 0 0)
  rw [hw2]
  have hfin : Blk (w2.setCell ⟨b, 0, none⟩ (.int .i64 e)).drew a #[.int .u8 0, .int .u16 0, .bool false, .int .u8 0, .int .u8 0, .int .u32 0, .int .u32 0, .slice none 0 0, .slice none 0 0] 26 ∧ Blk (w2.setCell ⟨b, 0, none⟩ (.int .i64 e)).drew b #[.int .i64 e] 30 ∧
      (∀ B w0, Below B w0 w → B ≤ a → B ≤ b → Below B w0 (w2.setCell ⟨b, 0, none⟩ (.int .i64 e)).drew) :=
    ⟨(S.blk.far ⟨b, 0, none⟩ (Ne.symm hab) _).drew, ((S.other (Ne.symm hab) L1).set_ 0 _).drew, fun B w0 h h1 h2 => below_drew ((S.bel (hB B w0 h h1) h1).setCell (p := ⟨b, 0, none⟩) h2 _)⟩
  exact ⟨rfl, _, rfl, .tuple #[], results_none rfl _ _ _, rfl, rfl, hfin⟩
theorem catch_idle (a b : Nat) (w : World) :
    CallsD Tryz.prog 88 #[.pointer (some ⟨a, 0, none⟩), .pointer (some ⟨b, 0, none⟩)] .returning w fun r u' w' => r = .returned (.tuple #[]) ∧ u' = .returning ∧ w = w' := by
  refine callsD_of_wpS Tryz.func88 rfl fun c₀ cs hu => ?_
  apply wpS_seq
  apply wpS_region
  simp [wpOpsS, go_sem, recoverD, hu, Tryz.ntmps88, Exit.thenS]
  refine wpS_of_wp ?_
  simp only [List.size_toArray, List.length_cons, List.length_nil, Nat.reduceAdd, Nat.reduceSub, Array.replicate_succ, Array.replicate_zero, List.push_toArray, List.append_toArray, List.nil_append, List.cons_append, List.setIfInBounds_toArray, List.set_cons_zero, List.set_cons_succ]
  go_wp2_with fail
  refine ⟨rfl, .returning, ?_, .tuple #[], results_none rfl _ _ _, rfl, rfl, rfl⟩
  rw [← hu]
structure RdPost (w : World) (q : Bool) (l : List UInt8) (e : Ending) (w' : World) : Prop where
  out : ∃ A1 n1 c1 A2 n2 c2, e = .returned (.tuple #[(.agg #[.int .u8 (rdPk q l).tos, .int .u16 (rdPk q l).id, .bool (rdPk q l).keep, .int .u8 (rdPk q l).ttl, .int .u8 (rdPk q l).proto, .int .u32 (rdPk q l).src, .int .u32 (rdPk q l).dst, .slice A1 n1 c1, .slice A2 n2 c2]), .int .i64 (rdE q l)]) ∧ Bs w' A1 n1 c1 (rdPk q l).opt ∧ Bs w' A2 n2 c2 (rdPk q l).dat ∧ (∀ a, A1 = some a → w.heap.size ≤ a.block) ∧ (∀ a, A2 = some a → w.heap.size ≤ a.block) ∧ Below w.heap.size w w'
theorem read_any (A : Option Addr) (n c : Nat) (l : List UInt8) (q : Bool) (le : Int) (hle : le = if q then 8 else 0) (w : World) (hb : Bs w A n c l) :
    Calls Tryz.prog 54 #[.slice A n c, .bool q, .int .i64 le] w (RdPost w q l) := by
  have hmf : ∀ (fn : Fn) (first cap : Array Value) (w : World), (Instr.makeFunc fn first cap).run Tryz.prog w = .ok (.func fn first cap) w := fun _ _ _ _ => rfl
  have HLE := Lib.hid hle
  clear hle
  go_enter_defers Tryz.func54, Tryz.ntmps54
  go_wp2_with fail
  obtain ⟨w0, hw0⟩ : ∃ w0, (w.alloc (.cells #[.int .u8 0, .int .u16 0, .bool false, .int .u8 0, .int .u8 0, .int .u32 0, .int .u32 0, .slice none 0 0, .slice none 0 0] 26)).alloc (.cells #[.int .i64 0] 30) = w0 := ⟨_, rfl⟩
  have P0 : Blk w0 w.heap.size #[.int .u8 0, .int .u16 0, .bool false, .int .u8 0, .int .u8 0, .int .u32 0, .int .u32 0, .slice none 0 0, .slice none 0 0] 26 := by rw [← hw0]; exact (blk_new w _ _ _ rfl).alloc _
  have E0 : Blk w0 (w.heap.size + 1) #[.int .i64 0] 30 := by rw [← hw0]; exact blk_new _ _ _ _ (by simp)
  have T0 : Below w.heap.size w w0 := by first | exact bw1 hw0 | exact bw2 hw0 | exact bw3 hw0 | exact bw4 hw0
  have hs : w0.heap.size = w.heap.size + 1 + 1 := by rw [← hw0]; simp
  have hb0 := hb.below T0
  obtain ⟨a, ha⟩ : ∃ a, w.heap.size = a := ⟨_, rfl⟩
  obtain ⟨b, hb'⟩ : ∃ b, a + 1 = b := ⟨_, rfl⟩
  rw [hw0, ← hs]
  rw [ha] at hs P0 E0
  rw [hb'] at hs E0
  rw [ha, hb']
  have hne : a ≠ b := by omega
  refine (packet_any w0 w0.heap.size A n c l q _ hb0 (below_alloc (Below.refl _ w0) (Nat.le_refl _) _) (Nat.le_refl _) (blk_new w0 _ _ _ rfl) le HLE.out).mono ?_
  intro e w1 hP
  have P1 := P0.below hP.bel
  have E1 := E0.below hP.bel
  have T1 := below_then T0 hP.bel
  clear hw0
  by_cases hE : rdE q l = 0
  · obtain ⟨A1, n1, c1, A2, n2, c2, rfl, k1, k2, a1, a2⟩ := hP.ok hE
    have hR : rdPk q l = rdP l := by unfold rdPk; rw [if_pos hE]
    obtain ⟨p, hp⟩ : ∃ p, rdP l = p := ⟨_, rfl⟩
    rw [hp] at k1 k2 hR ⊢
    have HE := Lib.hid hE
    have HR := Lib.hid hR
    have HA := Lib.hid ha
    have HB := Lib.hid hb'
    have HS := Lib.hid hs
    clear hE hP hp hR ha hb' hs
    have pc := P1.cell
    have ec := E1.cell
    have nb : ∀ (W : World) (j : Nat) (v : Value), (W.setCell ⟨a, j, none⟩ v).cell? ⟨b, 0, none⟩ = W.cell? ⟨b, 0, none⟩ := fun W j v => World.cell?_setCell_far W _ _ v hne
    go_wp2_with fail
    obtain ⟨w2, hw2, S⟩ := store9 P1 (.int .u8 p.tos) (.int .u16 p.id) (.bool p.keep) (.int .u8 p.ttl) (.int .u8 p.proto) (.int .u32 p.src) (.int .u32 p.dst) (.slice A1 n1 c1) (.slice A2 n2 c2)
    rw [hw2]
    have hsz := HA.out
    have hsb := HB.out
    have hss := HS.out
    have P3 := S.blk.far ⟨b, 0, none⟩ (Ne.symm hne) (.int .i64 0)
    have E3 : Blk (w2.setCell ⟨b, 0, none⟩ (.int .i64 0)) b #[.int .i64 0] 30 := (S.other (Ne.symm hne) E1).set_ 0 _
    have T3 := (S.bel T1 (by omega)).setCell (p := ⟨b, 0, none⟩) (by simp; omega) (.int .i64 0)
    have K1 := (S.bs k1 (fun x e => by have := a1 x e; omega)).away ⟨b, 0, none⟩ (fun x e => by have := a1 x e; simp; omega) (.int .i64 0)
    have K2 := (S.bs k2 (fun x e => by have := a2 x e; omega)).away ⟨b, 0, none⟩ (fun x e => by have := a2 x e; simp; omega) (.int .i64 0)
    clear hsz hsb hss hw2 S pc ec nb k1 k2 T1 P1 E1
    generalize w2.setCell ⟨b, 0, none⟩ (.int .i64 0) = w3 at *
    refine leaves_cons (f := 88) (args := #[.pointer (some ⟨a, 0, none⟩), .pointer (some ⟨b, 0, none⟩)]) (by simp) (by simp [go_sem]) ?_
    refine (catch_idle a b _).mono ?_
    rintro e u' w4 ⟨rfl, rfl, rfl⟩
    have pc := P3.cell
    have ec := E3.cell
    simp [Leaves, settle, results, Tryz.results54, go_sem, pc, ec]
    exact ⟨A1, n1, c1, A2, n2, c2, by rw [HR.out, HE.out], by rw [HR.out]; exact K1, by rw [HR.out]; exact K2, fun x e => Nat.le_trans T0.size (a1 x e), fun x e => Nat.le_trans T0.size (a2 x e), T3⟩
  · have hx := hP.no hE
    subst hx
    clear hP
    have HA := Lib.hid ha
    have HB := Lib.hid hb'
    have HS := Lib.hid hs
    clear ha hb' hs
    go_wp2_with fail
    refine leaves_cons (f := 88) (args := #[.pointer (some ⟨a, 0, none⟩), .pointer (some ⟨b, 0, none⟩)]) (by simp) (by simp [go_sem]) ?_
    refine (catch_fault a b _ _ _ _ _ _ _ _ _ _ _ _ hne P1 E1).mono ?_
    rintro e u' w2 ⟨rfl, rfl, P2, E2, hB⟩
    have pc := P2.cell
    have ec := E2.cell
    have T2 := hB _ _ T1 (by have := HA.out; omega) (by have := HA.out; have := HB.out; omega)
    simp [Leaves, settle, results, Tryz.results54, go_sem, pc, ec]
    have hR : rdPk q l = zP := by unfold rdPk; rw [if_neg hE]
    exact ⟨none, 0, 0, none, 0, 0, by rw [hR]; rfl, by rw [hR]; exact Bs.none_ _, by rw [hR]; exact Bs.none_ _, fun x e => (by cases e), fun x e => (by cases e), T2⟩
theorem ipQuote_any (A : Option Addr) (n c : Nat) (l : List UInt8) (w : World) (hb : Bs w A n c l) :
    Calls Tryz.prog 18 #[.slice A n c] w (RdPost w true l) := by
  go_enter Tryz.func18, Tryz.ntmps18
  go_wp2_with fail
  refine (read_any A n c l true 8 rfl _ (hb.alloc _)).mono ?_
  intro e w1 hP
  obtain ⟨A1, n1, c1, A2, n2, c2, rfl, k1, k2, a1, a2, T1⟩ := hP.out
  have P1 := (blk_new w #[.int .u8 0, .int .u16 0, .bool false, .int .u8 0, .int .u8 0, .int .u32 0, .int .u32 0, .slice none 0 0, .slice none 0 0] 26 _ rfl).below T1
  have T := below_then ((Below.refl _ w).alloc (Nat.le_refl _) _) T1
  clear hP T1
  have pc := P1.cell
  generalize hp : rdPk true l = p at *
  generalize he : rdE true l = e at *
  have HP := Lib.hid hp
  have HE := Lib.hid he
  clear hp he
  go_wp2_with fail
  obtain ⟨w2, hw2, S⟩ := store9 P1 (.int .u8 p.tos) (.int .u16 p.id) (.bool p.keep) (.int .u8 p.ttl) (.int .u8 p.proto) (.int .u32 p.src) (.int .u32 p.dst) (.slice A1 n1 c1) (.slice A2 n2 c2)
  rw [hw2]
  have K1 := S.bs k1 (fun x e => by have := a1 x e; simp at this; omega)
  have K2 := S.bs k2 (fun x e => by have := a2 x e; simp at this; omega)
  have TF := S.bel T (Nat.le_refl _)
  have pf := S.blk.cell
  clear hw2 S P1 pc k1 k2 T
  refine bodyPost_ret (v := .tuple #[(.agg #[.int .u8 (p).tos, .int .u16 (p).id, .bool (p).keep, .int .u8 (p).ttl, .int .u8 (p).proto, .int .u32 (p).src, .int .u32 (p).dst, .slice A1 n1 c1, .slice A2 n2 c2]), .int .i64 e]) (by simp [results, Tryz.results18, go_sem, pf]) rfl ⟨A1, n1, c1, A2, n2, c2, by rw [HP.out, HE.out], by rw [HP.out]; exact K1, by rw [HP.out]; exact K2, fun x e => by have := a1 x e; simp at this; omega, fun x e => by have := a2 x e; simp at this; omega, TF⟩
def qEch (l : List UInt8) : Bool := isEchoM ⟨bt l 0, bt l 1, 0, []⟩
def inE (q : Pkt) : Int := if q.proto = 6 then 0 else if q.proto = 17 then 0 else if q.proto = 1 then (if qEch q.dat = false then 12 else 0) else if q.proto = 47 then (if begB q.dat = false then 4 else 0) else 12
def inA (q : Pkt) : Int := if q.proto = 6 then get16 q.dat 0 else if q.proto = 17 then get16 q.dat 0 else if q.proto = 1 then get16 q.dat 4 else 0
def inB (q : Pkt) : Int := if q.proto = 6 then get16 q.dat 2 else if q.proto = 17 then get16 q.dat 2 else if q.proto = 1 then get16 q.dat 4 else get16 q.dat 6
def inT (q : Pkt) : Tup := tuP q (inA q) (inB q) (inE q)
def quE (p : Pkt) : Int := if icE p ≠ 0 then icE p else if isErrM (icM p) = false then 12 else if rdE true (icM p).dat ≠ 0 then rdE true (icM p).dat else inE (rdPk true (icM p).dat)
def quQ (p : Pkt) : Pkt := if quE p = 0 then rdPk true (icM p).dat else zP
def quT (p : Pkt) : Tup := if quE p = 0 then inT (rdPk true (icM p).dat) else zT
theorem rd_8 {l : List UInt8} (h : rdE true l = 0) : 8 ≤ (rdPk true l).dat.length := by
  have hr := h
  unfold rdE at h
  split at h
  · rename_i h1; exact absurd h h1
  rename_i h1
  have h1' : lenE true l = 0 := by simpa using h1
  obtain ⟨f1, f2, f3, f4, f5, f6, f7, f8, f9⟩ := len_facts h1'
  split at h
  · cases h
  split at h
  · cases h
  split at h
  · cases h
  split at h
  · cases h
  rename_i h5
  unfold rdPk
  rw [if_pos hr]
  unfold rdP
  simp only [List.length_drop, List.length_take]
  have h6 : ¬ (alOf l - hdOf l < 8) := by
    intro hc
    exact h5 ⟨rfl, hc⟩
  omega
theorem quE_ways (p : Pkt) : (quE p = icE p ∧ icE p ≠ 0) ∨ (quE p = 12 ∧ icE p = 0 ∧ isErrM (icM p) = false) ∨ (icE p = 0 ∧ isErrM (icM p) = true ∧ rdE true (icM p).dat ≠ 0 ∧ quE p = rdE true (icM p).dat) ∨
    (icE p = 0 ∧ isErrM (icM p) = true ∧ rdE true (icM p).dat = 0 ∧ quE p = inE (rdPk true (icM p).dat)) := by
  unfold quE
  by_cases h1 : icE p = 0
  · rw [if_neg (by simp [h1])]
    cases h2 : isErrM (icM p)
    · right; left; simp [h1]
    · rw [if_neg (by simp)]
      by_cases h3 : rdE true (icM p).dat = 0
      · right; right; right; simp [h1, h3]
      · right; right; left; simp [h1, h3]
  · left; simp [h1]
theorem quT_no {p : Pkt} (h : quE p ≠ 0) : quT p = zT ∧ quQ p = zP := by unfold quT quQ; rw [if_neg h, if_neg h]; exact ⟨rfl, rfl⟩
theorem quT_in {p : Pkt} (h : quE p = inE (rdPk true (icM p).dat)) : quT p = inT (rdPk true (icM p).dat) := by
  unfold quT
  split
  · rfl
  · rename_i h1
    rw [h] at h1
    unfold inT tuP
    rw [if_pos h1]
theorem get32_bytes {l : List UInt8} (h : 4 ≤ l.length) : get32 l 0 = ((bt l 0 * 256 + bt l 1) * 256 + bt l 2) * 256 + bt l 3 := by
  rw [get32_in (by omega) (by omega), get16_in (by omega) (by omega), get16_in (by omega) (by omega)]
  show (bt l 0 * 256 + bt l 1) * 65536 + (bt l 2 * 256 + bt l 3) = _
  omega
theorem beg_get32 {l : List UInt8} (h : 8 ≤ l.length) : (get32 (gL ⟨0, bt l 0 == 48, bt l 1 == 129, 0, 0, []⟩) 0 != get32 l 0) = !begB l := by
  obtain ⟨f, hf⟩ : ∃ f : Frm, (⟨0, bt l 0 == 48, bt l 1 == 129, 0, 0, []⟩ : Frm) = f := ⟨_, rfl⟩
  have hfo : f.Ok := by rw [← hf]; exact ⟨by constructor <;> simp, by constructor <;> simp, by constructor <;> simp⟩
  obtain ⟨g0, g1, g2, g3, -, -⟩ := gH_at f hfo (by rw [← hf]; simp) f.dat
  have hL : 8 ≤ (gL f).length := by rw [gL_len]; unfold gN; omega
  rw [hf, get32_bytes (l := l) (by omega), get32_bytes (l := gL f) (by omega)]
  have e : gL f = gH f ++ f.dat := rfl
  rw [← e] at g0 g1 g2 g3
  rw [g0, g1, g2, g3, ← hf]
  have a0 := bt_lo l 0
  have a1 := bt_hi l 0
  have b0 := bt_lo l 1
  have b1 := bt_hi l 1
  have c0 := bt_lo l 2
  have c1 := bt_hi l 2
  have d0 := bt_lo l 3
  have d1 := bt_hi l 3
  unfold begB b0F b1F
  clear hL g0 g1 g2 g3 e hf hfo h
  obtain ⟨a, ha⟩ : ∃ a, bt l 0 = a := ⟨_, rfl⟩
  obtain ⟨b, hb⟩ : ∃ a, bt l 1 = a := ⟨_, rfl⟩
  obtain ⟨c, hc⟩ : ∃ a, bt l 2 = a := ⟨_, rfl⟩
  obtain ⟨d, hd⟩ : ∃ a, bt l 3 = a := ⟨_, rfl⟩
  rw [ha] at a0 a1 ⊢
  rw [hb] at b0 b1 ⊢
  rw [hc] at c0 c1 ⊢
  rw [hd] at d0 d1 ⊢
  clear ha hb hc hd
  rw [Bool.eq_iff_iff]
  simp only [bne_iff_ne, Bool.not_eq_true', Bool.and_eq_false_iff, Bool.or_eq_false_iff, beq_eq_false_iff_ne, beq_iff_eq]
  by_cases h1 : a = 48 <;> by_cases h2 : b = 129 <;> simp only [h1, h2, if_true, if_false] <;> omega
theorem inE_ways (q : Pkt) : (q.proto = 6 ∧ inE q = 0 ∧ inA q = get16 q.dat 0 ∧ inB q = get16 q.dat 2) ∨ (q.proto = 17 ∧ inE q = 0 ∧ inA q = get16 q.dat 0 ∧ inB q = get16 q.dat 2) ∨
    (q.proto = 1 ∧ inE q = (if qEch q.dat = false then 12 else 0) ∧ inA q = get16 q.dat 4 ∧ inB q = get16 q.dat 4) ∨ (q.proto = 47 ∧ inE q = (if begB q.dat = false then 4 else 0) ∧ inA q = 0 ∧ inB q = get16 q.dat 6) ∨
    (q.proto ≠ 6 ∧ q.proto ≠ 17 ∧ q.proto ≠ 1 ∧ q.proto ≠ 47 ∧ inE q = 12) := by
  unfold inE inA inB
  by_cases h6 : q.proto = 6
  · left; rw [h6]; simp
  by_cases h17 : q.proto = 17
  · right; left; rw [h17]; simp
  by_cases h1 : q.proto = 1
  · right; right; left; rw [h1]; simp
  by_cases h47 : q.proto = 47
  · right; right; right; left; rw [h47]; simp
  right; right; right; right; simp [h6, h17, h1, h47]
set_option maxHeartbeats 8000000
structure WyPost (w : World) (x y E : Int) (e : Ending) (w' : World) : Prop where
  out : ∃ a b, e = .returned (.tuple #[.agg #[.int .u16 a, .int .u16 b], .int .i64 E]) ∧ (E = 0 → a = x ∧ b = y) ∧ Below w.heap.size w w'
theorem ktwo_any (p : Pkt) (A1 : Option Addr) (n1 c1 : Nat) (A2 : Option Addr) (n2 c2 : Nat) (w : World) (k2 : Bs w A2 n2 c2 p.dat) :
    Calls Tryz.prog 80 #[(.agg #[.int .u8 (p).tos, .int .u16 (p).id, .bool (p).keep, .int .u8 (p).ttl, .int .u8 (p).proto, .int .u32 (p).src, .int .u32 (p).dst, .slice A1 n1 c1, .slice A2 n2 c2])] w (WyPost w (get16 p.dat 0) (get16 p.dat 2) 0) := by
  have c0 := fun W h => get16_any A2 n2 c2 p.dat 0 W h
  have c2' := fun W h => get16_any A2 n2 c2 p.dat 2 W h
  obtain ⟨g0, hg0⟩ : ∃ g, get16 p.dat 0 = g := ⟨_, rfl⟩
  obtain ⟨g2, hg2⟩ : ∃ g, get16 p.dat 2 = g := ⟨_, rfl⟩
  rw [hg0] at c0
  rw [hg2] at c2'
  rw [hg0, hg2]
  clear hg0 hg2
  obtain ⟨k, hk, w1, hw1, P1, Z1, R1⟩ := nwI2 w #[.int .u8 (p).tos, .int .u16 (p).id, .bool (p).keep, .int .u8 (p).ttl, .int .u8 (p).proto, .int .u32 (p).src, .int .u32 (p).dst, .slice A1 n1 c1, .slice A2 n2 c2] 26 #[.int .u16 0, .int .u16 0] 90
  have Pc1 := P1.cell
  have Zc1 := Z1.cell
  have Pl1 := P1.lt
  have Zl1 := Z1.lt
  have x1 := (k2).below R1
  go_enter Tryz.func80, Tryz.ntmps80
  go_wp2_with fail
  refine region_txt 7 (by kernel_rfl) (by kernel_rfl) ?_; (iterate 7 (first | (apply ObsK.skip (by rfl)) | (apply ObsK.v (by rfl); (intro wo hT; (repeat (first | (intro _ _ k; try have hcv := cv k))); (have pc := (P1.below hT).cell; have x2 := x1.below hT); refine Goes.mk ?_; go_simp; first | exact goes_v | exact goes_b (by assumption) | (refine goes_enter ?_; first | (go_at_call 60; ((with_reducible refine (c0 wo x2).mono ?_); rintro e w5 ⟨rfl, hD5⟩); exact ret_v hD5.bel) | (go_at_call 60; ((with_reducible refine (c2' wo x2).mono ?_); rintro e w5 ⟨rfl, hD5⟩); exact ret_v hD5.bel)))) | (apply ObsK.b (by rfl); (intro wo hT; (repeat (first | (intro _ _ k; try have hcv := cv k))); (have pc := (P1.below hT).cell; have x2 := x1.below hT); refine Goes.mk ?_; go_simp; first | exact goes_v | exact goes_b (by assumption) | (refine goes_enter ?_; first | (go_at_call 60; ((with_reducible refine (c0 wo x2).mono ?_); rintro e w5 ⟨rfl, hD5⟩); exact ret_v hD5.bel) | (go_at_call 60; ((with_reducible refine (c2' wo x2).mono ?_); rintro e w5 ⟨rfl, hD5⟩); exact ret_v hD5.bel)))))); refine ObsK.nil ?_; intro wz hBz; simp only [finOn, List.drop_succ_cons, List.drop_zero, List.drop_nil]
  go_simp
  have P2 := P1.below hBz
  have Pc2 := P2.cell
  clear Pc1
  have Z2 := Z1.below hBz
  have Zc2 := Z2.cell
  clear Zc1
  have x2 := x1.below hBz
  have R2 := below_then R1 hBz
  go_wp2_with fail
  obtain ⟨wf, hwf, Sf⟩ := store2 Z2 (.int .u16 g0) (.int .u16 g2)
  rw [hwf]
  have pf := Sf.blk.cell
  exact bodyPost_ret (v := .tuple #[.agg #[.int .u16 g0, .int .u16 g2], .int .i64 0]) (by simp [results, Tryz.results80, go_sem, pf]) rfl ⟨_, _, rfl, (fun _ => ⟨rfl, rfl⟩), Sf.bel R2 (by omega)⟩
theorem qecho_any (p : Pkt) (A1 : Option Addr) (n1 c1 : Nat) (A2 : Option Addr) (n2 c2 : Nat) (w : World) (k2 : Bs w A2 n2 c2 p.dat) (h8 : 8 ≤ n2) :
    Calls Tryz.prog 84 #[(.agg #[.int .u8 (p).tos, .int .u16 (p).id, .bool (p).keep, .int .u8 (p).ttl, .int .u8 (p).proto, .int .u32 (p).src, .int .u32 (p).dst, .slice A1 n1 c1, .slice A2 n2 c2])] w (WyPost w (get16 p.dat 4) (get16 p.dat 4) (if qEch p.dat = false then 12 else 0)) := by
  have cg := fun W h => get16_any A2 n2 c2 p.dat 4 W h
  have hmo : (⟨bt p.dat 0, bt p.dat 1, 0, []⟩ : Msg).Ok := ⟨⟨bt_lo _ _, bt_hi _ _⟩, ⟨bt_lo _ _, bt_hi _ _⟩, by constructor <;> simp⟩
  have ce := fun W => isecho_any ⟨bt p.dat 0, bt p.dat 1, 0, []⟩ hmo none 0 0 W
  obtain ⟨g, hg⟩ : ∃ g, get16 p.dat 4 = g := ⟨_, rfl⟩
  obtain ⟨b, hb⟩ : ∃ b, qEch p.dat = b := ⟨_, rfl⟩
  rw [show isEchoM ⟨bt p.dat 0, bt p.dat 1, 0, []⟩ = b from hb] at ce
  rw [hg] at cg
  rw [hb, hg]
  clear hb hg hmo
  obtain ⟨bb, off, rfl⟩ := k2.some_ (by omega)
  have q0 : 0 < n2 := by omega
  have q0' : (0 : Int) < n2 := by omega
  have q1 : (1 : Int) < n2 := by omega
  have b2 := k2.max
  obtain ⟨k, hk, w1, hw1, P1, Z1, R1⟩ := nwI2 w #[.int .u8 (p).tos, .int .u16 (p).id, .bool (p).keep, .int .u8 (p).ttl, .int .u8 (p).proto, .int .u32 (p).src, .int .u32 (p).dst, .slice A1 n1 c1, .slice (some ⟨bb, off, none⟩) n2 c2] 26 #[.int .u16 0, .int .u16 0] 90
  have Pc1 := P1.cell
  have Zc1 := Z1.cell
  have Pl1 := P1.lt
  have Zl1 := Z1.lt
  have x1 := (k2).below R1
  cases b
  · skip
    go_enter Tryz.func84, Tryz.ntmps84
    go_wp2_with fail
    refine region_txt 11 (by kernel_rfl) (by kernel_rfl) ?_; (iterate 11 (first | (apply ObsK.skip (by rfl)) | (apply ObsK.v (by rfl); (intro wo hT; (repeat (first | (intro _ _ k; try have hcv := cv k))); (have pc := (P1.below hT).cell; have bo := x1.below hT; have c0 := bo.at_ (j := 0) (by omega); rw [Nat.add_zero] at c0; have c1 := bo.at_ (j := 1) (by omega)); refine Goes.mk ?_; go_simp; first | exact goes_v | exact goes_b (by assumption) | (refine goes_enter ?_; first | (go_at_call 102; ((with_reducible refine (ce wo).mono ?_); rintro e w5 ⟨rfl, hD5⟩); exact ret_v hD5)))) | (apply ObsK.b (by rfl); (intro wo hT; (repeat (first | (intro _ _ k; try have hcv := cv k))); (have pc := (P1.below hT).cell; have bo := x1.below hT; have c0 := bo.at_ (j := 0) (by omega); rw [Nat.add_zero] at c0; have c1 := bo.at_ (j := 1) (by omega)); refine Goes.mk ?_; go_simp; first | exact goes_v | exact goes_b (by assumption) | (refine goes_enter ?_; first | (go_at_call 102; ((with_reducible refine (ce wo).mono ?_); rintro e w5 ⟨rfl, hD5⟩); exact ret_v hD5)))))); refine ObsK.nil ?_; intro wz hBz; simp only [finOn, List.drop_succ_cons, List.drop_zero, List.drop_nil]
    go_simp
    have P2 := P1.below hBz
    have Pc2 := P2.cell
    clear Pc1
    have Z2 := Z1.below hBz
    have Zc2 := Z2.cell
    clear Zc1
    have x2 := x1.below hBz
    have R2 := below_then R1 hBz
    go_wp2_with fail
    obtain ⟨wf, hwf, Sf⟩ := store2 Z2 (.int .u16 0) (.int .u16 0)
    rw [hwf]
    have pf := Sf.blk.cell
    exact bodyPost_ret (v := .tuple #[.agg #[.int .u16 0, .int .u16 0], .int .i64 12]) (by simp [results, Tryz.results84, go_sem, pf]) rfl ⟨_, _, rfl, (fun h => by simp at h), Sf.bel R2 (by omega)⟩
  · skip
    go_enter Tryz.func84, Tryz.ntmps84
    go_wp2_with fail
    refine region_txt 11 (by kernel_rfl) (by kernel_rfl) ?_; (iterate 11 (first | (apply ObsK.skip (by rfl)) | (apply ObsK.v (by rfl); (intro wo hT; (repeat (first | (intro _ _ k; try have hcv := cv k))); (have pc := (P1.below hT).cell; have bo := x1.below hT; have c0 := bo.at_ (j := 0) (by omega); rw [Nat.add_zero] at c0; have c1 := bo.at_ (j := 1) (by omega)); refine Goes.mk ?_; go_simp; first | exact goes_v | exact goes_b (by assumption) | (refine goes_enter ?_; first | (go_at_call 102; ((with_reducible refine (ce wo).mono ?_); rintro e w5 ⟨rfl, hD5⟩); exact ret_v hD5)))) | (apply ObsK.b (by rfl); (intro wo hT; (repeat (first | (intro _ _ k; try have hcv := cv k))); (have pc := (P1.below hT).cell; have bo := x1.below hT; have c0 := bo.at_ (j := 0) (by omega); rw [Nat.add_zero] at c0; have c1 := bo.at_ (j := 1) (by omega)); refine Goes.mk ?_; go_simp; first | exact goes_v | exact goes_b (by assumption) | (refine goes_enter ?_; first | (go_at_call 102; ((with_reducible refine (ce wo).mono ?_); rintro e w5 ⟨rfl, hD5⟩); exact ret_v hD5)))))); refine ObsK.nil ?_; intro wz hBz; simp only [finOn, List.drop_succ_cons, List.drop_zero, List.drop_nil]
    go_simp
    have P2 := P1.below hBz
    have Pc2 := P2.cell
    clear Pc1
    have Z2 := Z1.below hBz
    have Zc2 := Z2.cell
    clear Zc1
    have x2 := x1.below hBz
    have R2 := below_then R1 hBz
    go_wp2_with (go_at_call 60; ((with_reducible refine (cg wz x2).mono ?_); rintro e w3 ⟨rfl, hD3⟩); have hB3 := hD3.bel; have P3 := P2.below hB3; have Pc3 := P3.cell; clear Pc2; have Z3 := Z2.below hB3; have Zc3 := Z3.cell; clear Zc2; have x3 := x2.below hB3; have R3 := below_then R2 hB3)
    obtain ⟨wf, hwf, Sf⟩ := store2 Z3 (.int .u16 g) (.int .u16 g)
    rw [hwf]
    have pf := Sf.blk.cell
    exact bodyPost_ret (v := .tuple #[.agg #[.int .u16 g, .int .u16 g], .int .i64 0]) (by simp [results, Tryz.results84, go_sem, pf]) rfl ⟨_, _, rfl, fun _ => ⟨rfl, rfl⟩, Sf.bel R3 (by omega)⟩
theorem qframe_any (p : Pkt) (A1 : Option Addr) (n1 c1 : Nat) (A2 : Option Addr) (n2 c2 : Nat) (w : World) (k2 : Bs w A2 n2 c2 p.dat) (h8 : 8 ≤ n2) :
    Calls Tryz.prog 86 #[(.agg #[.int .u8 (p).tos, .int .u16 (p).id, .bool (p).keep, .int .u8 (p).ttl, .int .u8 (p).proto, .int .u32 (p).src, .int .u32 (p).dst, .slice A1 n1 c1, .slice A2 n2 c2])] w (WyPost w 0 (get16 p.dat 6) (if begB p.dat = false then 4 else 0)) := by
  have l2 := k2.len
  have hbeg := beg_get32 (l := p.dat) (by omega)
  obtain ⟨b0, hb0⟩ : ∃ b, bt p.dat 0 = b := ⟨_, rfl⟩
  obtain ⟨b1, hb1⟩ : ∃ b, bt p.dat 1 = b := ⟨_, rfl⟩
  obtain ⟨s, hs⟩ : ∃ s, (b0 == 48) = s := ⟨_, rfl⟩
  obtain ⟨a, ha⟩ : ∃ s, (b1 == 129) = s := ⟨_, rfl⟩
  rw [hb0, hb1, hs, ha] at hbeg
  have hfo : (⟨0, s, a, 0, 0, []⟩ : Frm).Ok := ⟨by constructor <;> simp, by constructor <;> simp, by constructor <;> simp⟩
  have hbad : gBad ⟨0, s, a, 0, 0, []⟩ = false := by unfold gBad; simp
  have hE : bgE zP ⟨0, s, a, 0, 0, []⟩ = 0 := by
    unfold bgE wiE gN
    rw [hbad]
    cases s <;> cases a <;> simp [zP]
  have hP := bgP_ok hE
  obtain ⟨L, hL⟩ : ∃ L, gL ⟨0, s, a, 0, 0, []⟩ = L := ⟨_, rfl⟩
  rw [hL] at hP hbeg
  have cb : ∀ W, Calls Tryz.prog 100 #[.agg #[.int .u8 0, .int .u16 0, .bool false, .int .u8 0, .int .u8 0, .int .u32 0, .int .u32 0, .slice none 0 0, .slice none 0 0], .agg #[.int .u16 0, .bool s, .bool a, .int .u32 0, .int .u32 0, .slice none 0 0]] W fun e w' => ∃ B1 m1 d1 B2 m2 d2, e = .returned (.tuple #[.agg #[.int .u8 0, .int .u16 0, .bool false, .int .u8 0, .int .u8 47, .int .u32 0, .int .u32 0, .slice B1 m1 d1, .slice B2 m2 d2], .int .i64 0]) ∧ Bs w' B2 m2 d2 L ∧ Below W.heap.size W w' := fun W => by
    refine (bg_any zP none 0 0 none 0 0 ⟨0, s, a, 0, 0, []⟩ hfo none 0 0 W (Bs.none_ _) (Bs.none_ _) (by omega)).mono fun e w' hq => ?_
    obtain ⟨B1, m1, d1, B2, m2, d2, rfl, -, h2, h3⟩ := hq.out
    rw [hP] at h2 ⊢
    rw [hE]
    exact ⟨B1, m1, d1, B2, m2, d2, rfl, h2.bs, h3⟩
  have cg := fun W h => get16_any A2 n2 c2 p.dat 6 W h
  have c3 := fun W h => get32_any A2 n2 c2 p.dat 0 W h
  have c4 := fun B m d W h => get32_any B m d L 0 W h
  obtain ⟨g, hg⟩ : ∃ g, get16 p.dat 6 = g := ⟨_, rfl⟩
  obtain ⟨y, hy⟩ : ∃ g, get32 p.dat 0 = g := ⟨_, rfl⟩
  obtain ⟨z, hz⟩ : ∃ g, get32 L 0 = g := ⟨_, rfl⟩
  obtain ⟨b, hb⟩ : ∃ b, begB p.dat = b := ⟨_, rfl⟩
  rw [hg] at cg
  rw [hy] at c3 hbeg
  rw [hz] at c4 hbeg
  rw [hb] at hbeg
  rw [hb, hg]
  clear hb hg hy hz hP hE hL hbad hfo l2
  obtain ⟨bb, off, rfl⟩ := k2.some_ (by omega)
  have q0 : 0 < n2 := by omega
  have q0' : (0 : Int) < n2 := by omega
  have q1 : (1 : Int) < n2 := by omega
  have b2 := k2.max
  obtain ⟨k, hk, w1, hw1, P1, Z1, R1⟩ := nwI2 w #[.int .u8 (p).tos, .int .u16 (p).id, .bool (p).keep, .int .u8 (p).ttl, .int .u8 (p).proto, .int .u32 (p).src, .int .u32 (p).dst, .slice A1 n1 c1, .slice (some ⟨bb, off, none⟩) n2 c2] 26 #[.int .u16 0, .int .u16 0] 90
  have Pc1 := P1.cell
  have Zc1 := Z1.cell
  have Pl1 := P1.lt
  have Zl1 := Z1.lt
  have x1 := (k2).below R1
  have hcell : ∀ W, Bs W (some ⟨bb, off, none⟩) n2 c2 p.dat → W.cell? ⟨bb, off, none⟩ = some (.int .u8 b0) ∧ W.cell? ⟨bb, off + 1, none⟩ = some (.int .u8 b1) := fun W h => by
    have bo := h.at_ (j := 0) (by omega)
    rw [Nat.add_zero, hb0] at bo
    have bp := h.at_ (j := 1) (by omega)
    rw [hb1] at bp
    exact ⟨bo, bp⟩
  clear hb0 hb1
  cases b
  · skip
    go_enter Tryz.func86, Tryz.ntmps86
    go_wp2_with fail
    have ho := hcell w1 x1
    have Bv : Below w1.heap.size w1 w1.drew := by (repeat (first | with_reducible exact Below.refl _ _ | with_reducible refine below_drew ?_ | with_reducible refine below_drewN ?_ _ | with_reducible refine below_alloc ?_ (Nat.le_refl _) _ | with_reducible refine Below.setCell ?_ (by first | exact Nat.le_refl _ | (simp only []; omega)) _ | with_reducible assumption))
    go_region
    generalize w1.drew = wv at Bv ⊢
    have P2 := P1.below Bv
    have Pc2 := P2.cell
    clear Pc1
    have Z2 := Z1.below Bv
    have Zc2 := Z2.cell
    clear Zc1
    have x2 := x1.below Bv
    have R2 := below_then R1 Bv
    go_wp2_with (go_at_call 100; ((with_reducible refine (cb wv).mono ?_); rintro e u3 ⟨B1, m1, d1, B2, m2, d2, rfl, k3, hB3⟩); (obtain ⟨w3, hw3, V3, kQ3, hkQ3, Q3⟩ := nw1 u3 #[.int .u8 0, .int .u16 0, .bool false, .int .u8 0, .int .u8 47, .int .u32 0, .int .u32 0, .slice B1 m1 d1, .slice B2 m2 d2] 26); have Qc3 := Q3.cell; have T3 := below_then hB3 V3; have y3 := (k3).below V3; have P3 := P2.below T3; have Pc3 := P3.cell; clear Pc2; have Z3 := Z2.below T3; have Zc3 := Z3.cell; clear Zc2; have x3 := x2.below T3; have R3 := below_then R2 T3)
    refine region_txt 7 (by kernel_rfl) (by kernel_rfl) ?_; (iterate 7 (first | (apply ObsK.skip (by rfl)) | (apply ObsK.v (by rfl); (intro wo hT; (repeat (first | (intro _ _ k; try have hcv := cv k))); (have pc := (P3.below hT).cell; have qc := (Q3.below hT).cell; have yo := y3.below hT; have xo := x3.below hT); refine Goes.mk ?_; go_simp; first | exact goes_v | exact goes_b (by assumption) | (refine goes_enter ?_; first | (go_at_call 52; ((with_reducible refine (c3 wo xo).mono ?_); rintro e w5 ⟨rfl, hD5⟩); exact ret_v hD5.bel) | (go_at_call 52; ((with_reducible refine (c4 B2 m2 d2 wo yo).mono ?_); rintro e w5 ⟨rfl, hD5⟩); exact ret_v hD5.bel)))) | (apply ObsK.b (by rfl); (intro wo hT; (repeat (first | (intro _ _ k; try have hcv := cv k))); (have pc := (P3.below hT).cell; have qc := (Q3.below hT).cell; have yo := y3.below hT; have xo := x3.below hT); refine Goes.mk ?_; go_simp; first | exact goes_v | exact goes_b (by assumption) | (refine goes_enter ?_; first | (go_at_call 52; ((with_reducible refine (c3 wo xo).mono ?_); rintro e w5 ⟨rfl, hD5⟩); exact ret_v hD5.bel) | (go_at_call 52; ((with_reducible refine (c4 B2 m2 d2 wo yo).mono ?_); rintro e w5 ⟨rfl, hD5⟩); exact ret_v hD5.bel)))))); refine ObsK.nil ?_; intro wz hBz; simp only [finOn, List.drop_succ_cons, List.drop_zero, List.drop_nil]
    go_simp
    have P4 := P3.below hBz
    have Pc4 := P4.cell
    clear Pc3
    have Z4 := Z3.below hBz
    have Zc4 := Z4.cell
    clear Zc3
    have Q4 := Q3.below hBz
    have Qc4 := Q4.cell
    clear Qc3
    have x4 := x3.below hBz
    have y4 := y3.below hBz
    have R4 := below_then R3 hBz
    go_wp2_with fail
    obtain ⟨wf, hwf, Sf⟩ := store2 Z4 (.int .u16 0) (.int .u16 0)
    rw [hwf]
    have pf := Sf.blk.cell
    exact bodyPost_ret (v := .tuple #[.agg #[.int .u16 0, .int .u16 0], .int .i64 4]) (by simp [results, Tryz.results86, go_sem, pf]) rfl ⟨_, _, rfl, (fun h => by simp at h), Sf.bel R4 (by omega)⟩
  · skip
    go_enter Tryz.func86, Tryz.ntmps86
    go_wp2_with fail
    have ho := hcell w1 x1
    have Bv : Below w1.heap.size w1 w1.drew := by (repeat (first | with_reducible exact Below.refl _ _ | with_reducible refine below_drew ?_ | with_reducible refine below_drewN ?_ _ | with_reducible refine below_alloc ?_ (Nat.le_refl _) _ | with_reducible refine Below.setCell ?_ (by first | exact Nat.le_refl _ | (simp only []; omega)) _ | with_reducible assumption))
    go_region
    generalize w1.drew = wv at Bv ⊢
    have P2 := P1.below Bv
    have Pc2 := P2.cell
    clear Pc1
    have Z2 := Z1.below Bv
    have Zc2 := Z2.cell
    clear Zc1
    have x2 := x1.below Bv
    have R2 := below_then R1 Bv
    go_wp2_with (go_at_call 100; ((with_reducible refine (cb wv).mono ?_); rintro e u3 ⟨B1, m1, d1, B2, m2, d2, rfl, k3, hB3⟩); (obtain ⟨w3, hw3, V3, kQ3, hkQ3, Q3⟩ := nw1 u3 #[.int .u8 0, .int .u16 0, .bool false, .int .u8 0, .int .u8 47, .int .u32 0, .int .u32 0, .slice B1 m1 d1, .slice B2 m2 d2] 26); have Qc3 := Q3.cell; have T3 := below_then hB3 V3; have y3 := (k3).below V3; have P3 := P2.below T3; have Pc3 := P3.cell; clear Pc2; have Z3 := Z2.below T3; have Zc3 := Z3.cell; clear Zc2; have x3 := x2.below T3; have R3 := below_then R2 T3)
    refine region_txt 7 (by kernel_rfl) (by kernel_rfl) ?_; (iterate 7 (first | (apply ObsK.skip (by rfl)) | (apply ObsK.v (by rfl); (intro wo hT; (repeat (first | (intro _ _ k; try have hcv := cv k))); (have pc := (P3.below hT).cell; have qc := (Q3.below hT).cell; have yo := y3.below hT; have xo := x3.below hT); refine Goes.mk ?_; go_simp; first | exact goes_v | exact goes_b (by assumption) | (refine goes_enter ?_; first | (go_at_call 52; ((with_reducible refine (c3 wo xo).mono ?_); rintro e w5 ⟨rfl, hD5⟩); exact ret_v hD5.bel) | (go_at_call 52; ((with_reducible refine (c4 B2 m2 d2 wo yo).mono ?_); rintro e w5 ⟨rfl, hD5⟩); exact ret_v hD5.bel)))) | (apply ObsK.b (by rfl); (intro wo hT; (repeat (first | (intro _ _ k; try have hcv := cv k))); (have pc := (P3.below hT).cell; have qc := (Q3.below hT).cell; have yo := y3.below hT; have xo := x3.below hT); refine Goes.mk ?_; go_simp; first | exact goes_v | exact goes_b (by assumption) | (refine goes_enter ?_; first | (go_at_call 52; ((with_reducible refine (c3 wo xo).mono ?_); rintro e w5 ⟨rfl, hD5⟩); exact ret_v hD5.bel) | (go_at_call 52; ((with_reducible refine (c4 B2 m2 d2 wo yo).mono ?_); rintro e w5 ⟨rfl, hD5⟩); exact ret_v hD5.bel)))))); refine ObsK.nil ?_; intro wz hBz; simp only [finOn, List.drop_succ_cons, List.drop_zero, List.drop_nil]
    go_simp
    have P4 := P3.below hBz
    have Pc4 := P4.cell
    clear Pc3
    have Z4 := Z3.below hBz
    have Zc4 := Z4.cell
    clear Zc3
    have Q4 := Q3.below hBz
    have Qc4 := Q4.cell
    clear Qc3
    have x4 := x3.below hBz
    have y4 := y3.below hBz
    have R4 := below_then R3 hBz
    go_wp2_with (go_at_call 60; ((with_reducible refine (cg wz x4).mono ?_); rintro e w5 ⟨rfl, hD5⟩); have hB5 := hD5.bel; have P5 := P4.below hB5; have Pc5 := P5.cell; clear Pc4; have Z5 := Z4.below hB5; have Zc5 := Z5.cell; clear Zc4; have Q5 := Q4.below hB5; have Qc5 := Q5.cell; clear Qc4; have x5 := x4.below hB5; have y5 := y4.below hB5; have R5 := below_then R4 hB5)
    obtain ⟨wf, hwf, Sf⟩ := store2 Z5 (.int .u16 0) (.int .u16 g)
    rw [hwf]
    have pf := Sf.blk.cell
    exact bodyPost_ret (v := .tuple #[.agg #[.int .u16 0, .int .u16 g], .int .i64 0]) (by simp [results, Tryz.results86, go_sem, pf]) rfl ⟨_, _, rfl, fun _ => ⟨rfl, rfl⟩, Sf.bel R5 (by omega)⟩
set_option maxHeartbeats 4000000
def bdE (p : Pkt) : Int := if 40 < p.opt.length ∨ p.opt.length % 4 ≠ 0 then 4 else if 65535 < 20 + p.opt.length + p.dat.length then 8 else 0

def hdL (p : Pkt) : List UInt8 := [ub (64 + (20 + (p.opt.length : Int)) / 4), ub p.tos] ++ two (20 + (p.opt.length : Int) + (p.dat.length : Int)) ++ two p.id ++ [if p.keep = true then 64 else 0, 0, ub p.ttl, ub p.proto, 0, 0] ++ four p.src ++ four p.dst ++ p.opt
def hdE (p : Pkt) (all : Int) : List UInt8 := [ub (69 + (p.opt.length : Int) / 4), ub p.tos] ++ two all ++ two p.id ++ [ub (if p.keep = true then 64 else 0), ub 0] ++ [ub p.ttl, ub p.proto, ub 0, ub 0] ++ four p.src ++ four p.dst ++ p.opt
theorem header_any (p : Pkt) (hp : p.Ok) (all : Int) (a0 : 0 ≤ all) (a1 : all ≤ 65535) (A1 : Option Addr) (n1 c1 : Nat) (A2 : Option Addr) (n2 c2 : Nat) (w : World) (k1 : Bs w A1 n1 c1 p.opt)
    (h1 : (n1 : Int) ≤ 40) :
    Calls Tryz.prog 36 #[(.agg #[.int .u8 (p).tos, .int .u16 (p).id, .bool (p).keep, .int .u8 (p).ttl, .int .u8 (p).proto, .int .u32 (p).src, .int .u32 (p).dst, .slice A1 n1 c1, .slice A2 n2 c2]), .int .i64 all] w fun e w' => ∃ A n c, e = .returned (.slice A n c) ∧ Own w' w.heap.size 5 A n c (put16 (hdE p all) 10 (csum (hdE p all))) ∧ Below w.heap.size w w' := by
  have b1 := k1.max
  have hl := k1.len
  obtain ⟨⟨o1, o1'⟩, ⟨o2, o2'⟩, ⟨o3, o3'⟩, ⟨o4, o4'⟩, ⟨o5, o5'⟩, ⟨o6, o6'⟩⟩ := hp
  obtain ⟨kp, hkp⟩ : ∃ kp, p.keep = kp := ⟨_, rfl⟩
  obtain ⟨y, hy⟩ : ∃ y : Int, 69 + (n1 : Int) / 4 = y := ⟨_, rfl⟩
  have HE : Hid (hdE p all = [ub y, ub p.tos] ++ two all ++ two p.id ++ [ub (if kp = true then 64 else 0), ub 0] ++ [ub p.ttl, ub p.proto, ub 0, ub 0] ++ four p.src ++ four p.dst ++ p.opt) := by unfold Hid hdE; rw [hl, hy, hkp]
  rw [hkp]
  have y0 : 69 ≤ y := by omega
  have y1 : y ≤ 79 := by omega
  have HL := Lib.hid hl
  clear hl hkp
  obtain ⟨k, hk⟩ : ∃ k : Nat, w.heap.size = k := ⟨_, rfl⟩
  obtain ⟨w1, hw1⟩ : ∃ w1, w.alloc (.cells #[.int .u8 p.tos, .int .u16 p.id, .bool kp, .int .u8 p.ttl, .int .u8 p.proto, .int .u32 p.src, .int .u32 p.dst, .slice A1 n1 c1, .slice A2 n2 c2] 26) = w1 := ⟨_, rfl⟩
  have B0 : Blk w1 k #[.int .u8 p.tos, .int .u16 p.id, .bool kp, .int .u8 p.ttl, .int .u8 p.proto, .int .u32 p.src, .int .u32 p.dst, .slice A1 n1 c1, .slice A2 n2 c2] 26 := by rw [← hw1]; exact blk_new w _ _ k hk
  have R1 : Below w.heap.size w w1 := by first | exact bw1 hw1 | exact bw2 hw1 | exact bw3 hw1 | exact bw4 hw1
  have x1 := k1.below R1
  have q0 := B0.cell
  have L0 := fun W => lit2 (e := 5) (x := y) (y := p.tos) (by omega) (by omega) o1 o1' W
  have L4 := fun W => lit4 (e := 5) (x := p.ttl) (y := p.proto) (z := 0) (u := 0) o3 o3' o4 o4' (by omega) (by omega) (by omega) (by omega) W
  have L3 := fun W => lit2 (e := 5) (x := 64) (y := 0) (by omega) (by omega) (by omega) (by omega) W
  have L3' := fun W => lit2 (e := 5) (x := 0) (y := 0) (by omega) (by omega) (by omega) (by omega) W
  go_enter Tryz.func36, Tryz.ntmps36
  cases kp
  all_goals go_wp2_with (first
    | (go_at_call 70; ((with_reducible refine (two_any all a0 a1 _).mono ?_); rintro e w2 ⟨A2', c2', rfl, ho2, hB2⟩); have t2 := (L0 w1).below hB2)
    | (at_builtin; refine wpList_append_bs (w0 := w1) _ rfl _ _ _ rfl w1.heap.size 5 Tryz.underlying24 info_u8 _ 2 2 [ub y, ub p.tos] rfl t2 A2' 2 c2' (two all) rfl ho2.bs (below_then (below_alloc (Below.refl _ w1) (Nat.le_refl _) _) hB2) (by omega) (by first | exact Nat.le_refl _ | exact Below.size (below_then (below_alloc (Below.refl _ w1) (Nat.le_refl _) _) hB2) | omega | (simp <;> omega)) ?_; intro A3 n3 c3 w3 ho3 hB3 _ hz3; have u3 : n3 = 4 := (by rw [← ho3.len]; rfl); subst u3; have g3 := (B0.below hB3).cell)
    | (go_at_call 70; ((with_reducible refine (two_any p.id o2 o2' w3).mono ?_); rintro e w4 ⟨A4, c4, rfl, ho4, hB4⟩); have t4 := ho3.below hB4; have T4 := below_then hB3 hB4)
    | (at_builtin; refine wpList_append_bs (w0 := w1) _ rfl _ _ _ rfl w1.heap.size 5 Tryz.underlying24 info_u8 A3 4 c3 _ rfl t4 A4 2 c4 (two p.id) rfl ho4.bs T4 (by omega) (by first | exact Nat.le_refl _ | exact Below.size T4 | omega | (simp <;> omega)) ?_; intro A5 n5 c5 w5 ho5 hB5 _ hz5; have u5 : n5 = 6 := (by rw [← ho5.len]; rfl); subst u5; have g5 := (B0.below hB5).cell)
    | (at_builtin; refine wpList_append_bs (w0 := w1) _ rfl _ _ _ rfl w1.heap.size 5 Tryz.underlying24 info_u8 A5 6 c5 _ rfl (ho5.alloc _) (some ⟨_, 0, none⟩) 2 2 [ub 64, ub 0] rfl ((L3 w5).bs) (below_alloc hB5 (Nat.le_refl _) _) (by omega) (by first | exact Nat.le_refl _ | exact Below.size (below_alloc hB5 (Nat.le_refl _) _) | omega | (simp <;> omega)) ?_; intro A6 n6 c6 w6 ho6 hB6 _ hz6; have u6 : n6 = 8 := (by rw [← ho6.len]; rfl); subst u6; have g6 := (B0.below hB6).cell)
    | (at_builtin; refine wpList_append_bs (w0 := w1) _ rfl _ _ _ rfl w1.heap.size 5 Tryz.underlying24 info_u8 A5 6 c5 _ rfl (ho5.alloc _) (some ⟨_, 0, none⟩) 2 2 [ub 0, ub 0] rfl ((L3' w5).bs) (below_alloc hB5 (Nat.le_refl _) _) (by omega) (by first | exact Nat.le_refl _ | exact Below.size (below_alloc hB5 (Nat.le_refl _) _) | omega | (simp <;> omega)) ?_; intro A6 n6 c6 w6 ho6 hB6 _ hz6; have u6 : n6 = 8 := (by rw [← ho6.len]; rfl); subst u6; have g6 := (B0.below hB6).cell)
    | (at_builtin; refine wpList_append_bs (w0 := w1) _ rfl _ _ _ rfl w1.heap.size 5 Tryz.underlying24 info_u8 A6 8 c6 _ rfl (ho6.alloc _) (some ⟨_, 0, none⟩) 4 4 _ rfl ((L4 w6).bs) (below_alloc hB6 (Nat.le_refl _) _) (by omega) (by first | exact Nat.le_refl _ | exact Below.size (below_alloc hB6 (Nat.le_refl _) _) | omega | (simp <;> omega)) ?_; intro A7 n7 c7 w7 ho7 hB7 _ hz7; have u7 : n7 = 12 := (by rw [← ho7.len]; rfl); subst u7; have g7 := (B0.below hB7).cell)
    | (go_at_call 38; ((with_reducible refine (four_any p.src o5 o5' w7).mono ?_); rintro e w8 ⟨A8, c8, rfl, ho8, hB8⟩); have t8 := ho7.below hB8; have T8 := below_then hB7 hB8)
    | (at_builtin; refine wpList_append_bs (w0 := w1) _ rfl _ _ _ rfl w1.heap.size 5 Tryz.underlying24 info_u8 A7 12 c7 _ rfl t8 A8 4 c8 (four p.src) rfl ho8.bs T8 (by omega) (by first | exact Nat.le_refl _ | exact Below.size T8 | omega | (simp <;> omega)) ?_; intro A9 n9 c9 w9 ho9 hB9 _ hz9; have u9 : n9 = 16 := (by rw [← ho9.len]; rfl); subst u9; have g9 := (B0.below hB9).cell)
    | (go_at_call 38; ((with_reducible refine (four_any p.dst o6 o6' w9).mono ?_); rintro e w10 ⟨A10, c10, rfl, ho10, hB10⟩); have t10 := ho9.below hB10; have T10 := below_then hB9 hB10)
    | (at_builtin; refine wpList_append_bs (w0 := w1) _ rfl _ _ _ rfl w1.heap.size 5 Tryz.underlying24 info_u8 A9 16 c9 _ rfl t10 A10 4 c10 (four p.dst) rfl ho10.bs T10 (by omega) (by first | exact Nat.le_refl _ | exact Below.size T10 | omega | (simp <;> omega)) ?_; intro A11 n11 c11 w11 ho11 hB11 _ hz11; have u11 : n11 = 20 := (by rw [← ho11.len]; rfl); subst u11; have g11 := (B0.below hB11).cell)
    | (at_builtin; refine wpList_append_bs (w0 := w1) _ rfl _ _ _ rfl w1.heap.size 5 Tryz.underlying24 info_u8 A11 20 c11 _ rfl ho11 A1 n1 c1 p.opt rfl (x1.below hB11) hB11 (by omega) (by first | exact Nat.le_refl _ | exact Below.size hB11 | omega | (simp <;> omega)) ?_; intro A12 n12 c12 w12 ho12 hB12 _ hz12; have u12 : n12 ≤ 60 := (by rw [← ho12.len, List.length_append, ho11.len, HL.out]; omega))
    | (go_at_call 27; ((with_reducible refine (rsum_any A12 n12 c12 _ (by omega) _ ho12.bs).mono ?_); rintro e w13 ⟨rfl, hB13⟩); have T13 := below_then hB12 hB13)
    | (go_at_call 26; ((with_reducible refine (rput16_any A12 n12 c12 _ 10 _ (csum_lo _) (csum_hi _) w13 (ho12.bs.below hB13)).mono ?_); rintro e w14 ⟨A14, c14, rfl, ho14, hB14⟩); have T14 := below_then T13 hB14))
  all_goals go_ret
  all_goals refine ⟨A14, n12, c14, rfl, ?_, below_then R1 T14⟩
  all_goals rw [HE.out]
  all_goals exact ho14.mono (Nat.le_trans R1.size T13.size)
theorem rbuild_any (p : Pkt) (hp : p.Ok) (A1 : Option Addr) (n1 c1 : Nat) (A2 : Option Addr) (n2 c2 : Nat) (w : World) (k1 : Bs w A1 n1 c1 p.opt) (k2 : Bs w A2 n2 c2 p.dat)
    (h1 : (n1 : Int) ≤ 40) (h2 : ((n1 : Int) % 4 != 0) = false) (h3 : 20 + (n1 : Int) + n2 ≤ 65535) :
    Calls Tryz.prog 10 #[(.agg #[.int .u8 (p).tos, .int .u16 (p).id, .bool (p).keep, .int .u8 (p).ttl, .int .u8 (p).proto, .int .u32 (p).src, .int .u32 (p).dst, .slice A1 n1 c1, .slice A2 n2 c2])] w fun e w' => ∃ A n c, e = .returned (.tuple #[.slice A n c, .int .i64 0]) ∧ Own w' w.heap.size 5 A n c (put16 (hdE p (20 + (n1 : Int) + n2)) 10 (csum (hdE p (20 + (n1 : Int) + n2))) ++ p.dat) ∧ Below w.heap.size w w' := by
  have b1 := k1.max
  have b2 := k2.max
  have hl := k1.len
  obtain ⟨m, hm⟩ : ∃ m : Int, 20 + (n1 : Int) = m := ⟨_, rfl⟩
  obtain ⟨z, hz⟩ : ∃ z : Int, m + (n2 : Int) = z := ⟨_, rfl⟩
  rw [hm, hz]
  have z0 : 0 ≤ z := by omega
  have z1 : z ≤ 65535 := by omega
  obtain ⟨X, hX⟩ : ∃ X, put16 (hdE p z) 10 (csum (hdE p z)) = X := ⟨_, rfl⟩
  have hXl : X.length ≤ 60 := by rw [← hX, put16_length]; unfold hdE; simp [two, four]; omega
  have hc := fun W k => header_any p hp z z0 z1 A1 n1 c1 A2 n2 c2 W k h1
  rw [hX] at hc ⊢
  have HX := Lib.hid hX
  have HXl := Lib.hid hXl
  clear hX hXl hl
  obtain ⟨k, hk⟩ : ∃ k : Nat, w.heap.size = k := ⟨_, rfl⟩
  obtain ⟨w1, hw1⟩ : ∃ w1, w.alloc (.cells #[.int .u8 p.tos, .int .u16 p.id, .bool p.keep, .int .u8 p.ttl, .int .u8 p.proto, .int .u32 p.src, .int .u32 p.dst, .slice A1 n1 c1, .slice A2 n2 c2] 26) = w1 := ⟨_, rfl⟩
  have B0 : Blk w1 k #[.int .u8 p.tos, .int .u16 p.id, .bool p.keep, .int .u8 p.ttl, .int .u8 p.proto, .int .u32 p.src, .int .u32 p.dst, .slice A1 n1 c1, .slice A2 n2 c2] 26 := by rw [← hw1]; exact blk_new w _ _ k hk
  have R1 : Below w.heap.size w w1 := by first | exact bw1 hw1 | exact bw2 hw1 | exact bw3 hw1 | exact bw4 hw1
  have x1 := k1.below R1
  have x2 := k2.below R1
  have q0 := B0.cell
  go_enter Tryz.func10, Tryz.ntmps10
  go_wp2_with fail
  refine region_txt 5 (by kernel_rfl) (by kernel_rfl) ?_; (iterate 5 (first | (apply ObsK.skip (by rfl)) | (apply ObsK.v (by rfl); (intro wo hT; (repeat (first | (intro v hv; (skip)) | (intro _ _ k; try have hcv := cv k))); (have bo := x1.below hT; have gc := (B0.below hT).cell; have hsz := hT.size); refine Goes.mk ?_; go_simp; first | exact goes_v | exact goes_b (by assumption) | (refine goes_enter ?_; first | (go_at_call 36; ((with_reducible refine (hc wo bo).mono ?_); rintro e w9 ⟨A9, n9, c9, rfl, ho9, hB9⟩); exact ret_p (own_isW ho9 hsz) hB9)))) | (apply ObsK.b (by rfl); (intro wo hT; (repeat (first | (intro v hv; (skip)) | (intro _ _ k; try have hcv := cv k))); (have bo := x1.below hT; have gc := (B0.below hT).cell; have hsz := hT.size); refine Goes.mk ?_; go_simp; first | exact goes_v | exact goes_b (by assumption) | (refine goes_enter ?_; first | (go_at_call 36; ((with_reducible refine (hc wo bo).mono ?_); rintro e w9 ⟨A9, n9, c9, rfl, ho9, hB9⟩); exact ret_p (own_isW ho9 hsz) hB9)))) | (apply ObsK.p (q := isW w1.heap.size _) (by rfl) st_isW; (intro wo hT; (repeat (first | (intro v hv; (skip)) | (intro _ _ k; try have hcv := cv k))); (have bo := x1.below hT; have gc := (B0.below hT).cell; have hsz := hT.size); refine Goes.mk ?_; go_simp; first | exact goes_v | exact goes_b (by assumption) | (refine goes_enter ?_; first | (go_at_call 36; ((with_reducible refine (hc wo bo).mono ?_); rintro e w9 ⟨A9, n9, c9, rfl, ho9, hB9⟩); exact ret_p (own_isW ho9 hsz) hB9)))))); refine ObsK.nil ?_; intro wz hBz; simp only [finOn, List.drop_succ_cons, List.drop_zero, List.drop_nil]
  intro v9 hv9
  obtain ⟨A9, n9, c9, rfl, O9⟩ := hv9
  go_simp
  have G9 := (B0.below hBz).cell
  have s9 := hBz.size
  have u9 : n9 ≤ 60 := by rw [← O9.len]; exact HXl.out
  go_wp2_with (first
    | (at_builtin; refine wpList_append_bs (w0 := w1) _ rfl _ _ _ rfl w1.heap.size 5 Tryz.underlying24 info_u8 A9 n9 c9 X rfl O9 A2 n2 c2 p.dat rfl (x2.below hBz) hBz (by omega) (by first | exact Nat.le_refl _ | exact Below.size hBz | omega | (simp <;> omega)) ?_; intro A10 n10 c10 w10 ho10 hB10 _ hz10))
  refine bodyPost_ret (v := .tuple #[.slice A10 n10 c10, .int .i64 0]) (by simp [results, Tryz.results10, go_sem]) rfl ⟨A10, n10, c10, rfl, ho10.mono R1.size, below_then R1 hB10⟩
theorem rbuild_form (p : Pkt) (A1 : Option Addr) (n1 c1 : Nat) (A2 : Option Addr) (n2 c2 : Nat) (w : World) (k1 : Bs w A1 n1 c1 p.opt) (k2 : Bs w A2 n2 c2 p.dat)
    (h1 : (n1 : Int) ≤ 40) (h2 : ((n1 : Int) % 4 != 0) = true) :
    Calls Tryz.prog 10 #[(.agg #[.int .u8 (p).tos, .int .u16 (p).id, .bool (p).keep, .int .u8 (p).ttl, .int .u8 (p).proto, .int .u32 (p).src, .int .u32 (p).dst, .slice A1 n1 c1, .slice A2 n2 c2])] w fun e w' => e = .returned (.tuple #[.slice none 0 0, .int .i64 4]) ∧ Below w.heap.size w w' := by
  have b1 := k1.max
  have b2 := k2.max
  go_enter Tryz.func10, Tryz.ntmps10
  go_wp2_with fail
  refine bodyPost_ret (v := .tuple #[.slice none 0 0, .int .i64 4]) (by simp [results, Tryz.results10, go_sem]) rfl ⟨rfl, by (repeat (first | with_reducible exact Below.refl _ _ | with_reducible refine below_drew ?_ | with_reducible refine below_drewN ?_ _ | with_reducible refine below_alloc ?_ (Nat.le_refl _) _ | with_reducible refine Below.setCell ?_ (by first | exact Nat.le_refl _ | (simp only []; omega)) _ | with_reducible assumption))⟩
theorem rbuild_opt (p : Pkt) (A1 : Option Addr) (n1 c1 : Nat) (A2 : Option Addr) (n2 c2 : Nat) (w : World) (k1 : Bs w A1 n1 c1 p.opt) (k2 : Bs w A2 n2 c2 p.dat)
    (h1 : 40 < (n1 : Int)) :
    Calls Tryz.prog 10 #[(.agg #[.int .u8 (p).tos, .int .u16 (p).id, .bool (p).keep, .int .u8 (p).ttl, .int .u8 (p).proto, .int .u32 (p).src, .int .u32 (p).dst, .slice A1 n1 c1, .slice A2 n2 c2])] w fun e w' => e = .returned (.tuple #[.slice none 0 0, .int .i64 4]) ∧ Below w.heap.size w w' := by
  have b1 := k1.max
  have b2 := k2.max
  go_enter Tryz.func10, Tryz.ntmps10
  go_wp2_with fail
  refine bodyPost_ret (v := .tuple #[.slice none 0 0, .int .i64 4]) (by simp [results, Tryz.results10, go_sem]) rfl ⟨rfl, by (repeat (first | with_reducible exact Below.refl _ _ | with_reducible refine below_drew ?_ | with_reducible refine below_drewN ?_ _ | with_reducible refine below_alloc ?_ (Nat.le_refl _) _ | with_reducible refine Below.setCell ?_ (by first | exact Nat.le_refl _ | (simp only []; omega)) _ | with_reducible assumption))⟩
theorem rbuild_long (p : Pkt) (A1 : Option Addr) (n1 c1 : Nat) (A2 : Option Addr) (n2 c2 : Nat) (w : World) (k1 : Bs w A1 n1 c1 p.opt) (k2 : Bs w A2 n2 c2 p.dat)
    (h1 : (n1 : Int) ≤ 40) (h2 : ((n1 : Int) % 4 != 0) = false) (h3 : 65535 < 20 + (n1 : Int) + n2) :
    Calls Tryz.prog 10 #[(.agg #[.int .u8 (p).tos, .int .u16 (p).id, .bool (p).keep, .int .u8 (p).ttl, .int .u8 (p).proto, .int .u32 (p).src, .int .u32 (p).dst, .slice A1 n1 c1, .slice A2 n2 c2])] w fun e w' => e = .returned (.tuple #[.slice none 0 0, .int .i64 8]) ∧ Below w.heap.size w w' := by
  have b1 := k1.max
  have b2 := k2.max
  go_enter Tryz.func10, Tryz.ntmps10
  go_wp2_with fail
  refine bodyPost_ret (v := .tuple #[.slice none 0 0, .int .i64 8]) (by simp [results, Tryz.results10, go_sem]) rfl ⟨rfl, by (repeat (first | with_reducible exact Below.refl _ _ | with_reducible refine below_drew ?_ | with_reducible refine below_drewN ?_ _ | with_reducible refine below_alloc ?_ (Nat.le_refl _) _ | with_reducible refine Below.setCell ?_ (by first | exact Nat.le_refl _ | (simp only []; omega)) _ | with_reducible assumption))⟩
def bdL (p : Pkt) : List UInt8 := if bdE p = 0 then put16 (hdL p) 10 (csum (hdL p)) ++ p.dat else []
theorem bdE_zero {p : Pkt} (h : bdE p = 0) : p.opt.length ≤ 40 ∧ p.opt.length % 4 = 0 ∧ 20 + p.opt.length + p.dat.length ≤ 65535 := by
  unfold bdE at h
  split at h
  · omega
  · split at h <;> omega
def hx (p : Pkt) (c : Int) : List UInt8 := [ub (64 + (20 + (p.opt.length : Int)) / 4), ub p.tos, ub ((20 + (p.opt.length : Int) + (p.dat.length : Int)) / 256), ub (20 + (p.opt.length : Int) + (p.dat.length : Int)), ub (p.id / 256), ub p.id, if p.keep = true then 64 else 0, 0, ub p.ttl, ub p.proto, ub (c / 256), ub c, ub (p.src / 16777216), ub (p.src / 65536), ub (p.src / 256), ub p.src, ub (p.dst / 16777216), ub (p.dst / 65536), ub (p.dst / 256), ub p.dst]
theorem hx_len (p : Pkt) (c : Int) : (hx p c).length = 20 := rfl
theorem hdL_hx (p : Pkt) : hdL p = hx p 0 ++ p.opt := by
  have e0 : ub 0 = 0 := by decide
  unfold hdL hx
  simp [two, four, e0]
theorem hx_put (p : Pkt) (c d : Int) : put16 (hx p c) ((10 : Nat) : Int) d = hx p d := by
  rw [put16_eq (by rw [hx_len]; omega)]
  simp [hx]
theorem hdL_put (p : Pkt) (c : Int) : put16 (hdL p) 10 c = hx p c ++ p.opt := by
  rw [hdL_hx, show (10 : Int) = ((10 : Nat) : Int) from rfl, put16_append (by rw [hx_len]; omega), hx_put]
theorem hdL_len (p : Pkt) : (hdL p).length = 20 + p.opt.length := by rw [hdL_hx, List.length_append, hx_len]
theorem good_hd (p : Pkt) : csum (hx p (csum (hdL p)) ++ p.opt) = 0 := by
  rw [← hdL_put]
  refine good_put (j := 5) (z := hdL p) (by rw [hdL_len]; omega) ?_
  rw [hdL_hx]
  rfl
theorem bdL_form {p : Pkt} (h : bdE p = 0) : bdL p = hx p (csum (hdL p)) ++ (p.opt ++ p.dat) := by
  unfold bdL; rw [if_pos h, hdL_put, List.append_assoc]
theorem bdL_len {p : Pkt} (h : bdE p = 0) : (bdL p).length = 20 + p.opt.length + p.dat.length := by
  rw [bdL_form h]; simp [hx_len]; omega
theorem bdL_bad {p : Pkt} (h : bdE p ≠ 0) : bdL p = [] := by unfold bdL; rw [if_neg h]
theorem hx_at {p : Pkt} (hp : p.Ok) {c : Int} (c0 : 0 ≤ c) (c1 : c ≤ 65535) (r : List UInt8) (hn : p.opt.length ≤ 40) (hz : 20 + p.opt.length + p.dat.length ≤ 65535) :
    bt (hx p c ++ r) 0 = 69 + (p.opt.length : Int) / 4 ∧ bt (hx p c ++ r) 1 = p.tos ∧ get16 (hx p c ++ r) 2 = 20 + (p.opt.length : Int) + (p.dat.length : Int) ∧ get16 (hx p c ++ r) 4 = p.id ∧
    get16 (hx p c ++ r) 6 = (if p.keep = true then 16384 else 0) ∧ bt (hx p c ++ r) 8 = p.ttl ∧ bt (hx p c ++ r) 9 = p.proto ∧ get16 (hx p c ++ r) 10 = c ∧ get32 (hx p c ++ r) 12 = p.src ∧ get32 (hx p c ++ r) 16 = p.dst := by
  obtain ⟨⟨o1, o1'⟩, ⟨o2, o2'⟩, ⟨o3, o3'⟩, ⟨o4, o4'⟩, ⟨o5, o5'⟩, ⟨o6, o6'⟩⟩ := hp
  have hl : (hx p c ++ r).length = 20 + r.length := by rw [List.length_append, hx_len]
  refine ⟨?_, ?_, ?_, ?_, ?_, ?_, ?_, ?_, ?_, ?_⟩
  · show ((ub _).toNat : Int) = _
    rw [ub_val]; omega
  · show ((ub _).toNat : Int) = _
    rw [ub_val]; omega
  · rw [get16_in (by omega) (by omega)]
    show ((ub _).toNat : Int) * 256 + ((ub _).toNat : Int) = _
    rw [ub_val, ub_val]; omega
  · rw [get16_in (by omega) (by omega)]
    show ((ub _).toNat : Int) * 256 + ((ub _).toNat : Int) = _
    rw [ub_val, ub_val]; omega
  · rw [get16_in (by omega) (by omega)]
    show (((if p.keep = true then (64 : UInt8) else 0)).toNat : Int) * 256 + (((0 : UInt8)).toNat : Int) = _
    cases p.keep <;> rfl
  · show ((ub _).toNat : Int) = _
    rw [ub_val]; omega
  · show ((ub _).toNat : Int) = _
    rw [ub_val]; omega
  · rw [get16_in (by omega) (by omega)]
    show ((ub _).toNat : Int) * 256 + ((ub _).toNat : Int) = _
    rw [ub_val, ub_val]; omega
  · rw [get32_in (by omega) (by omega), get16_in (by omega) (by omega), get16_in (by omega) (by omega)]
    show (((ub _).toNat : Int) * 256 + ((ub _).toNat : Int)) * 65536 + (((ub _).toNat : Int) * 256 + ((ub _).toNat : Int)) = _
    rw [ub_val, ub_val, ub_val, ub_val]; omega
  · rw [get32_in (by omega) (by omega), get16_in (by omega) (by omega), get16_in (by omega) (by omega)]
    show (((ub _).toNat : Int) * 256 + ((ub _).toNat : Int)) * 65536 + (((ub _).toNat : Int) * 256 + ((ub _).toNat : Int)) = _
    rw [ub_val, ub_val, ub_val, ub_val]; omega
theorem rd_good {l : List UInt8} {n d : Nat} (q : Bool) (hn : n ≤ 40) (h4 : n % 4 = 0) (hd : 20 + n + d ≤ l.length) (h0 : bt l 0 = 69 + (n : Int) / 4) (h2 : get16 l 2 = 20 + (n : Int) + (d : Int)) (hs : csum (l.take (20 + n)) = 0) :
    hdOf l = 20 + n ∧ alOf l = 20 + n + d ∧ rdE q l = (if get16 l 6 % 16384 ≠ 0 then 7 else if 32768 ≤ get16 l 6 then 4 else if q = true ∧ d < 8 then 3 else 0) := by
  have e1 : hdOf l = 20 + n := by unfold hdOf; omega
  have e2 : alOf l = 20 + n + d := by unfold alOf; rw [h2, if_neg (by omega)]
  have e3 : lenE q l = 0 := by
    unfold lenE
    rw [e1, h2, if_neg (by omega), if_neg (by omega), if_neg (by omega), if_neg (by omega), if_neg (by omega), if_neg (by rintro ⟨_, h⟩; omega)]
  refine ⟨e1, e2, ?_⟩
  unfold rdE
  rw [e3, e1, e2, show ((20 + (n : Int)).toNat) = 20 + n from by omega, hs, if_neg (by simp), if_neg (by simp)]
  have : (20 + (n : Int) + d - (20 + n) < 8) = (d < 8) := by rw [eq_iff_iff]; omega
  simp only [this]
theorem rd_form {p : Pkt} (hp : p.Ok) (h : bdE p = 0) {c : Int} (c0 : 0 ≤ c) (c1 : c ≤ 65535) (hs : csum (hx p c ++ p.opt) = 0) (m : List UInt8) :
    rdE false (hx p c ++ (p.opt ++ (p.dat ++ m))) = 0 ∧ rdP (hx p c ++ (p.opt ++ (p.dat ++ m))) = p ∧ (8 ≤ p.dat.length → rdE true (hx p c ++ (p.opt ++ (p.dat ++ m))) = 0) := by
  obtain ⟨n1, n2, n3⟩ := bdE_zero h
  obtain ⟨f0, f1, f2, f3, f4, f5, f6, f7, f8, f9⟩ := hx_at hp c0 c1 (p.opt ++ (p.dat ++ m)) n1 n3
  have t1 : (hx p c ++ (p.opt ++ (p.dat ++ m))).take (20 + p.opt.length) = hx p c ++ p.opt := by
    rw [← List.append_assoc]; exact List.take_left' (by rw [List.length_append, hx_len])
  have t2 : (hx p c ++ (p.opt ++ (p.dat ++ m))).take (20 + p.opt.length + p.dat.length) = hx p c ++ p.opt ++ p.dat := by
    rw [← List.append_assoc, ← List.append_assoc]; exact List.take_left' (by rw [List.length_append, List.length_append, hx_len])
  have hl : 20 + p.opt.length + p.dat.length ≤ (hx p c ++ (p.opt ++ (p.dat ++ m))).length := by simp [hx_len]; omega
  have k6 : ¬ (get16 (hx p c ++ (p.opt ++ (p.dat ++ m))) 6 % 16384 ≠ 0) ∧ ¬ (32768 ≤ get16 (hx p c ++ (p.opt ++ (p.dat ++ m))) 6) ∧ (get16 (hx p c ++ (p.opt ++ (p.dat ++ m))) 6 != 0) = p.keep := by
    rw [f4]; cases p.keep <;> decide
  have e := fun q => rd_good (l := hx p c ++ (p.opt ++ (p.dat ++ m))) q n1 n2 hl f0 f2 (by rw [t1]; exact hs)
  refine ⟨?_, ?_, fun h8 => ?_⟩
  · rw [(e false).2.2, if_neg k6.1, if_neg k6.2.1]; simp
  · have d1 : (20 + (p.opt.length : Int)).toNat = 20 + p.opt.length := by omega
    have d2 : (20 + (p.opt.length : Int) + (p.dat.length : Int)).toNat = 20 + p.opt.length + p.dat.length := by omega
    unfold rdP
    rw [(e false).1, (e false).2.1, d1, d2, t1, t2, f1, f3, k6.2.2, f5, f6, f8, f9, List.drop_left' (hx_len p c), List.drop_left' (by rw [List.length_append, hx_len])]
  · rw [(e true).2.2, if_neg k6.1, if_neg k6.2.1, if_neg (by omega)]
theorem rd_back {p : Pkt} (hp : p.Ok) (h : bdE p = 0) (m : List UInt8) : rdE false (bdL p ++ m) = 0 ∧ rdP (bdL p ++ m) = p ∧ (8 ≤ p.dat.length → rdE true (bdL p ++ m) = 0) := by
  rw [bdL_form h, List.append_assoc, List.append_assoc]
  exact rd_form hp h (csum_lo _) (csum_hi _) (good_hd p) m
theorem hdE_eq (p : Pkt) : hdE p (20 + (p.opt.length : Int) + (p.dat.length : Int)) = hdL p := by
  have e0 : ub 0 = 0 := by decide
  have e1 : (69 + (p.opt.length : Int) / 4) = 64 + (20 + (p.opt.length : Int)) / 4 := by omega
  have e2 : ub (if p.keep = true then 64 else 0) = if p.keep = true then 64 else 0 := by cases p.keep <;> decide
  unfold hdE hdL
  rw [e1, e2, e0]
  simp [two, four]
theorem bdE_ok {p : Pkt} {n1 n2 : Nat} (l1 : p.opt.length = n1) (l2 : p.dat.length = n2) (h1 : (n1 : Int) ≤ 40) (h2 : n1 % 4 = 0) (h3 : 20 + (n1 : Int) + n2 ≤ 65535) : bdE p = 0 := by
  unfold bdE; rw [l1, l2, if_neg (by omega), if_neg (by omega)]
theorem bdE_bad {p : Pkt} {n1 : Nat} (l1 : p.opt.length = n1) (h : 40 < (n1 : Int) ∨ n1 % 4 ≠ 0) : bdE p = 4 := by
  unfold bdE; rw [l1, if_pos (by omega)]
theorem bdE_big {p : Pkt} {n1 n2 : Nat} (l1 : p.opt.length = n1) (l2 : p.dat.length = n2) (h1 : (n1 : Int) ≤ 40) (h2 : n1 % 4 = 0) (h3 : 65535 < 20 + (n1 : Int) + n2) : bdE p = 8 := by
  unfold bdE; rw [l1, l2, if_neg (by omega), if_pos (by omega)]
theorem mod4_no {n : Nat} (h : n % 4 = 0) : ((n : Int) % 4 != 0) = false := by simp; omega
theorem mod4_yes {n : Nat} (h : n % 4 ≠ 0) : ((n : Int) % 4 != 0) = true := by simp; omega
theorem rbd_any (p : Pkt) (hp : p.Ok) (A1 : Option Addr) (n1 c1 : Nat) (A2 : Option Addr) (n2 c2 : Nat) (w : World) (k1 : Bs w A1 n1 c1 p.opt) (k2 : Bs w A2 n2 c2 p.dat) :
    Calls Tryz.prog 10 #[(.agg #[.int .u8 (p).tos, .int .u16 (p).id, .bool (p).keep, .int .u8 (p).ttl, .int .u8 (p).proto, .int .u32 (p).src, .int .u32 (p).dst, .slice A1 n1 c1, .slice A2 n2 c2])] w fun e w' => ∃ A n c, e = .returned (.tuple #[.slice A n c, .int .i64 (bdE p)]) ∧ Own w' w.heap.size 5 A n c (bdL p) ∧ Below w.heap.size w w' := by
  have l1 := k1.len
  have l2 := k2.len
  by_cases h1 : (n1 : Int) ≤ 40
  · by_cases h2 : n1 % 4 = 0
    · by_cases h3 : 20 + (n1 : Int) + n2 ≤ 65535
      · have hE := bdE_ok l1 l2 h1 h2 h3
        refine (rbuild_any p hp A1 n1 c1 A2 n2 c2 w k1 k2 h1 (mod4_no h2) h3).mono ?_
        rintro e w' ⟨A, n, c, rfl, ho, hB⟩
        exact ⟨A, n, c, by rw [hE], by unfold bdL; rw [if_pos hE, ← hdE_eq, l1, l2]; exact ho, hB⟩
      · have hE := bdE_big l1 l2 h1 h2 (by omega)
        refine (rbuild_long p A1 n1 c1 A2 n2 c2 w k1 k2 h1 (mod4_no h2) (by omega)).mono ?_
        rintro e w' ⟨rfl, hB⟩
        exact ⟨none, 0, 0, by rw [hE], by rw [bdL_bad (by rw [hE]; decide)]; exact own_nil _ _ _, hB⟩
    · have hE := bdE_bad l1 (Or.inr h2)
      refine (rbuild_form p A1 n1 c1 A2 n2 c2 w k1 k2 h1 (mod4_yes h2)).mono ?_
      rintro e w' ⟨rfl, hB⟩
      exact ⟨none, 0, 0, by rw [hE], by rw [bdL_bad (by rw [hE]; decide)]; exact own_nil _ _ _, hB⟩
  · have hE := bdE_bad l1 (Or.inl (by omega))
    refine (rbuild_opt p A1 n1 c1 A2 n2 c2 w k1 k2 (by omega)).mono ?_
    rintro e w' ⟨rfl, hB⟩
    exact ⟨none, 0, 0, by rw [hE], by rw [bdL_bad (by rw [hE]; decide)]; exact own_nil _ _ _, hB⟩

set_option maxHeartbeats 8000000
theorem rdPost_no {w w' : World} {q : Bool} {l : List UInt8} (x : Int) (hE : rdE q l = x) (hx : x ≠ 0) (hB : Below w.heap.size w w') :
    RdPost w q l (.returned (.tuple #[.agg #[.int .u8 0, .int .u16 0, .bool false, .int .u8 0, .int .u8 0, .int .u32 0, .int .u32 0, .slice none 0 0, .slice none 0 0], .int .i64 x])) w' := by
  have hR : rdPk q l = zP := by unfold rdPk; rw [if_neg (by omega)]
  exact ⟨none, 0, 0, none, 0, 0, by rw [hR, hE]; rfl, by rw [hR]; exact Bs.none_ _, by rw [hR]; exact Bs.none_ _, fun x e => (by cases e), fun x e => (by cases e), hB⟩
theorem rread_len (A : Option Addr) (n c : Nat) (l : List UInt8) (q : Bool) (w : World) (hb : Bs w A n c l) (hE0 : lenE q l ≠ 0) :
    Calls Tryz.prog 41 #[.slice A n c, .bool q] w (RdPost w q l) := by
  have hlen := hb.len
  by_cases h20 : n < 20
  · have h1 : (n : Int) < 20 := by omega
    go_enter Tryz.func41, Tryz.ntmps41
    go_wp2_with fail
    have hE : lenE q l = 3 := by unfold lenE; rw [if_pos (by omega)]
    refine bodyPost_ret (v := .tuple #[.agg #[.int .u8 0, .int .u16 0, .bool false, .int .u8 0, .int .u8 0, .int .u32 0, .int .u32 0, .slice none 0 0, .slice none 0 0], .int .i64 3]) (by simp [results, Tryz.results41, go_sem]) rfl (rdPost_no 3 (by unfold rdE; rw [if_pos hE0, hE]) (by omega) (by (repeat (first | with_reducible exact Below.refl _ _ | with_reducible refine below_drew ?_ | with_reducible refine below_drewN ?_ _ | with_reducible refine below_alloc ?_ (Nat.le_refl _) _ | with_reducible refine Below.setCell ?_ (by first | exact Nat.le_refl _ | (simp only []; omega)) _ | with_reducible assumption))))
  · have h1 : ¬ (n : Int) < 20 := by omega
    obtain ⟨b, off, rfl⟩ := hb.some_ (by omega)
    have b0 := bt_lo l 0
    have b0' := bt_hi l 0
    obtain ⟨h, hh⟩ : ∃ h, hdOf l = h := ⟨_, rfl⟩
    have hh' : bt l 0 % 16 * 4 = h := by rw [← hh]; unfold hdOf; omega
    obtain ⟨g, hg⟩ : ∃ g, get16 l 2 = g := ⟨_, rfl⟩
    have g0 : 0 ≤ g := by rw [← hg]; exact get16_lo l 2
    have g1 : g ≤ 65535 := by rw [← hg]; exact get16_hi l 2
    have g2 : 0 ≤ h := by omega
    have g60 : h ≤ 60 := by omega
    have hb1 := hb.alloc (.cells #[.int .u8 0, .int .u16 0, .bool false, .int .u8 0, .int .u8 0, .int .u32 0, .int .u32 0, .slice none 0 0, .slice none 0 0] 26)
    have c0 := hb1.at_ (j := 0) (by omega)
    rw [Nat.add_zero] at c0
    have hn0 : (0 : Int) < n := by omega
    obtain ⟨x, hx⟩ : ∃ x, bt l 0 / 16 = x := ⟨_, rfl⟩
    have hR : rdE q l = lenE q l := by unfold rdE; rw [if_pos hE0]
    have HR := Lib.hid hR
    have H0 := Lib.hid hE0
    have HL := Lib.hid hlen
    clear hE0 hR
    by_cases hX : q = false ∧ (n : Int) < g
    · have HE : Hid (lenE q l = if x ≠ 4 then 6 else if h < 20 then 4 else if (n : Int) < h then 3 else if g < h then 4 else 3) := by
        unfold Hid lenE
        rw [hlen, if_neg h1, hx, hh, hg, if_pos hX]
      obtain ⟨rfl, hX⟩ := hX
      clear hlen hh
      go_enter Tryz.func41, Tryz.ntmps41
      go_wp2_with (go_at_call 64; ((with_reducible refine (rget16_any (some ⟨b, off, none⟩) n c l 2 _ hb1).mono ?_); rintro e w2 ⟨rfl, ⟨⟨d2, rfl⟩⟩⟩))
      all_goals have H1 := HE.out
      all_goals simp only [bne_iff_ne, ne_eq, bne_eq_false_iff_eq, Bool.not_eq_true', Bool.not_eq_false'] at *
      all_goals first
        | (refine bodyPost_ret (v := .tuple #[.agg #[.int .u8 0, .int .u16 0, .bool false, .int .u8 0, .int .u8 0, .int .u32 0, .int .u32 0, .slice none 0 0, .slice none 0 0], .int .i64 3]) ?_ rfl (rdPost_no 3 (HR.out.trans ?_) (by omega) ?_); (focus (simp [results, Tryz.results41, go_sem]; done)); (focus (rw [H1]; repeat' split; all_goals first | rfl | omega)); (repeat (first | with_reducible exact Below.refl _ _ | with_reducible refine below_drew ?_ | with_reducible refine below_drewN ?_ _ | with_reducible refine below_alloc ?_ (Nat.le_refl _) _ | with_reducible refine Below.setCell ?_ (by first | exact Nat.le_refl _ | (simp only []; omega)) _ | with_reducible assumption)))
        | (refine bodyPost_ret (v := .tuple #[.agg #[.int .u8 0, .int .u16 0, .bool false, .int .u8 0, .int .u8 0, .int .u32 0, .int .u32 0, .slice none 0 0, .slice none 0 0], .int .i64 4]) ?_ rfl (rdPost_no 4 (HR.out.trans ?_) (by omega) ?_); (focus (simp [results, Tryz.results41, go_sem]; done)); (focus (rw [H1]; repeat' split; all_goals first | rfl | omega)); (repeat (first | with_reducible exact Below.refl _ _ | with_reducible refine below_drew ?_ | with_reducible refine below_drewN ?_ _ | with_reducible refine below_alloc ?_ (Nat.le_refl _) _ | with_reducible refine Below.setCell ?_ (by first | exact Nat.le_refl _ | (simp only []; omega)) _ | with_reducible assumption)))
        | (refine bodyPost_ret (v := .tuple #[.agg #[.int .u8 0, .int .u16 0, .bool false, .int .u8 0, .int .u8 0, .int .u32 0, .int .u32 0, .slice none 0 0, .slice none 0 0], .int .i64 6]) ?_ rfl (rdPost_no 6 (HR.out.trans ?_) (by omega) ?_); (focus (simp [results, Tryz.results41, go_sem]; done)); (focus (rw [H1]; repeat' split; all_goals first | rfl | omega)); (repeat (first | with_reducible exact Below.refl _ _ | with_reducible refine below_drew ?_ | with_reducible refine below_drewN ?_ _ | with_reducible refine below_alloc ?_ (Nat.le_refl _) _ | with_reducible refine Below.setCell ?_ (by first | exact Nat.le_refl _ | (simp only []; omega)) _ | with_reducible assumption)))
        | (exfalso; apply H0.out; rw [H1]; repeat' split; all_goals first | rfl | omega)
    · have HE : Hid (lenE q l = if x ≠ 4 then 6 else if h < 20 then 4 else if (n : Int) < h then 3 else if g < h then 4 else 0) := by
        unfold Hid lenE
        rw [hlen, if_neg h1, hx, hh, hg, if_neg hX]
      clear hlen hh
      cases q with
      | true =>
        clear hX
        go_enter Tryz.func41, Tryz.ntmps41
        go_wp2_with (go_at_call 64; ((with_reducible refine (rget16_any (some ⟨b, off, none⟩) n c l 2 _ hb1).mono ?_); rintro e w2 ⟨rfl, ⟨⟨d2, rfl⟩⟩⟩))
        all_goals have H1 := HE.out
        all_goals simp only [bne_iff_ne, ne_eq, bne_eq_false_iff_eq, Bool.not_eq_true', Bool.not_eq_false'] at *
        all_goals first
          | (refine bodyPost_ret (v := .tuple #[.agg #[.int .u8 0, .int .u16 0, .bool false, .int .u8 0, .int .u8 0, .int .u32 0, .int .u32 0, .slice none 0 0, .slice none 0 0], .int .i64 3]) ?_ rfl (rdPost_no 3 (HR.out.trans ?_) (by omega) ?_); (focus (simp [results, Tryz.results41, go_sem]; done)); (focus (rw [H1]; repeat' split; all_goals first | rfl | omega)); (repeat (first | with_reducible exact Below.refl _ _ | with_reducible refine below_drew ?_ | with_reducible refine below_drewN ?_ _ | with_reducible refine below_alloc ?_ (Nat.le_refl _) _ | with_reducible refine Below.setCell ?_ (by first | exact Nat.le_refl _ | (simp only []; omega)) _ | with_reducible assumption)))
          | (refine bodyPost_ret (v := .tuple #[.agg #[.int .u8 0, .int .u16 0, .bool false, .int .u8 0, .int .u8 0, .int .u32 0, .int .u32 0, .slice none 0 0, .slice none 0 0], .int .i64 4]) ?_ rfl (rdPost_no 4 (HR.out.trans ?_) (by omega) ?_); (focus (simp [results, Tryz.results41, go_sem]; done)); (focus (rw [H1]; repeat' split; all_goals first | rfl | omega)); (repeat (first | with_reducible exact Below.refl _ _ | with_reducible refine below_drew ?_ | with_reducible refine below_drewN ?_ _ | with_reducible refine below_alloc ?_ (Nat.le_refl _) _ | with_reducible refine Below.setCell ?_ (by first | exact Nat.le_refl _ | (simp only []; omega)) _ | with_reducible assumption)))
          | (refine bodyPost_ret (v := .tuple #[.agg #[.int .u8 0, .int .u16 0, .bool false, .int .u8 0, .int .u8 0, .int .u32 0, .int .u32 0, .slice none 0 0, .slice none 0 0], .int .i64 6]) ?_ rfl (rdPost_no 6 (HR.out.trans ?_) (by omega) ?_); (focus (simp [results, Tryz.results41, go_sem]; done)); (focus (rw [H1]; repeat' split; all_goals first | rfl | omega)); (repeat (first | with_reducible exact Below.refl _ _ | with_reducible refine below_drew ?_ | with_reducible refine below_drewN ?_ _ | with_reducible refine below_alloc ?_ (Nat.le_refl _) _ | with_reducible refine Below.setCell ?_ (by first | exact Nat.le_refl _ | (simp only []; omega)) _ | with_reducible assumption)))
          | (exfalso; apply H0.out; rw [H1]; repeat' split; all_goals first | rfl | omega)
      | false =>
        have hX' : g ≤ (n : Int) := by
          rcases Int.lt_or_le (n : Int) g with hy | hy
          · exact absurd ⟨rfl, hy⟩ hX
          · exact hy
        clear hX
        go_enter Tryz.func41, Tryz.ntmps41
        go_wp2_with (go_at_call 64; ((with_reducible refine (rget16_any (some ⟨b, off, none⟩) n c l 2 _ hb1).mono ?_); rintro e w2 ⟨rfl, ⟨⟨d2, rfl⟩⟩⟩))
        all_goals have H1 := HE.out
        all_goals simp only [bne_iff_ne, ne_eq, bne_eq_false_iff_eq, Bool.not_eq_true', Bool.not_eq_false'] at *
        all_goals first
          | (refine bodyPost_ret (v := .tuple #[.agg #[.int .u8 0, .int .u16 0, .bool false, .int .u8 0, .int .u8 0, .int .u32 0, .int .u32 0, .slice none 0 0, .slice none 0 0], .int .i64 3]) ?_ rfl (rdPost_no 3 (HR.out.trans ?_) (by omega) ?_); (focus (simp [results, Tryz.results41, go_sem]; done)); (focus (rw [H1]; repeat' split; all_goals first | rfl | omega)); (repeat (first | with_reducible exact Below.refl _ _ | with_reducible refine below_drew ?_ | with_reducible refine below_drewN ?_ _ | with_reducible refine below_alloc ?_ (Nat.le_refl _) _ | with_reducible refine Below.setCell ?_ (by first | exact Nat.le_refl _ | (simp only []; omega)) _ | with_reducible assumption)))
          | (refine bodyPost_ret (v := .tuple #[.agg #[.int .u8 0, .int .u16 0, .bool false, .int .u8 0, .int .u8 0, .int .u32 0, .int .u32 0, .slice none 0 0, .slice none 0 0], .int .i64 4]) ?_ rfl (rdPost_no 4 (HR.out.trans ?_) (by omega) ?_); (focus (simp [results, Tryz.results41, go_sem]; done)); (focus (rw [H1]; repeat' split; all_goals first | rfl | omega)); (repeat (first | with_reducible exact Below.refl _ _ | with_reducible refine below_drew ?_ | with_reducible refine below_drewN ?_ _ | with_reducible refine below_alloc ?_ (Nat.le_refl _) _ | with_reducible refine Below.setCell ?_ (by first | exact Nat.le_refl _ | (simp only []; omega)) _ | with_reducible assumption)))
          | (refine bodyPost_ret (v := .tuple #[.agg #[.int .u8 0, .int .u16 0, .bool false, .int .u8 0, .int .u8 0, .int .u32 0, .int .u32 0, .slice none 0 0, .slice none 0 0], .int .i64 6]) ?_ rfl (rdPost_no 6 (HR.out.trans ?_) (by omega) ?_); (focus (simp [results, Tryz.results41, go_sem]; done)); (focus (rw [H1]; repeat' split; all_goals first | rfl | omega)); (repeat (first | with_reducible exact Below.refl _ _ | with_reducible refine below_drew ?_ | with_reducible refine below_drewN ?_ _ | with_reducible refine below_alloc ?_ (Nat.le_refl _) _ | with_reducible refine Below.setCell ?_ (by first | exact Nat.le_refl _ | (simp only []; omega)) _ | with_reducible assumption)))
          | (exfalso; apply H0.out; rw [H1]; repeat' split; all_goals first | rfl | omega)
def isP (B : Nat) : World → Value → Prop := fun W v => ∃ g, v = .pointer (some ⟨g, 0, none⟩) ∧ B ≤ g ∧ Blk W g #[.int .u8 0, .int .u16 0, .bool false, .int .u8 0, .int .u8 0, .int .u32 0, .int .u32 0, .slice none 0 0, .slice none 0 0] 26
theorem st_isP {B : Nat} : ∀ w w' v, isP B w v → Below w.heap.size w w' → isP B w' v := fun _ _ _ ⟨g, e, h, k⟩ hb => ⟨g, e, h, k.below hb⟩
theorem goes_isP {B : Nat} {W : World} (h : B ≤ W.heap.size) : OpGoes Tryz.prog (fun v w' => (Kd.p (isP B)).holds w' v ∧ Below W.heap.size W w') (.ok (.value (.pointer (some ⟨W.heap.size, 0, none⟩))) (W.alloc (.cells #[.int .u8 0, .int .u16 0, .bool false, .int .u8 0, .int .u8 0, .int .u32 0, .int .u32 0, .slice none 0 0, .slice none 0 0] 26))) :=
  ⟨⟨_, rfl, h, blk_new W _ _ _ rfl⟩, (Below.refl _ W).alloc (Nat.le_refl _) _⟩
theorem rread_ok (A : Option Addr) (n c : Nat) (l : List UInt8) (q : Bool) (w : World) (hb : Bs w A n c l) (hE0 : lenE q l = 0) :
    Calls Tryz.prog 41 #[.slice A n c, .bool q] w (RdPost w q l) := by
  have hlen := hb.len
  have hmax := hb.max
  have hcap := hb.cap
  obtain ⟨i8, hi8, -, hs8, -⟩ := info_parts info_u8
  obtain ⟨f1, f2, f3, f4, f5, f6, f7, f8, f9⟩ := len_facts hE0
  obtain ⟨b, off, rfl⟩ := hb.some_ (by omega)
  have b0 := bt_lo l 0
  have b0' := bt_hi l 0
  obtain ⟨h, hh⟩ : ∃ h, hdOf l = h := ⟨_, rfl⟩
  have hh' : bt l 0 % 16 * 4 = h := by rw [← hh]; unfold hdOf; omega
  obtain ⟨g, hg⟩ : ∃ g, get16 l 2 = g := ⟨_, rfl⟩
  obtain ⟨m, hm⟩ : ∃ m, alOf l = m := ⟨_, rfl⟩
  have ham : m = if (n : Int) < g then (n : Int) else g := by rw [← hm]; unfold alOf; rw [hg, hlen]
  have g0 : 0 ≤ g := by rw [← hg]; exact get16_lo l 2
  have g1 : g ≤ 65535 := by rw [← hg]; exact get16_hi l 2
  obtain ⟨f, hf⟩ : ∃ f, get16 l 6 = f := ⟨_, rfl⟩
  have e0 : 0 ≤ f := by rw [← hf]; exact get16_lo l 6
  have e1 : f ≤ 65535 := by rw [← hf]; exact get16_hi l 6
  obtain ⟨s, hs⟩ : ∃ s, csum (l.take h.toNat) = s := ⟨_, rfl⟩
  rw [hh] at f3 f4 f5 f7 f8
  rw [hm] at f5 f6
  rw [hg] at f8 f9
  rw [hlen] at f1 f4 f6 f9
  have hb1 := hb.alloc (.cells #[.int .u8 0, .int .u16 0, .bool false, .int .u8 0, .int .u8 0, .int .u32 0, .int .u32 0, .slice none 0 0, .slice none 0 0] 26)
  have c0 := hb1.at_ (j := 0) (by omega)
  rw [Nat.add_zero] at c0
  have hn0 : (0 : Int) < n := by omega
  obtain ⟨x, hx⟩ : ∃ x, bt l 0 / 16 = x := ⟨_, rfl⟩
  have hx4 : (x != 4) = false := by simp; omega
  have HE : Hid (rdE q l = if s ≠ 0 then 5 else if f % 16384 ≠ 0 then 7 else if 32768 ≤ f then 4 else if q = true ∧ m - h < 8 then 3 else 0) := by
    unfold Hid rdE
    rw [if_neg (by omega), hh, hs, hf, hm]
  have hcutA : ∀ W, (Instr.slice 24 (.slice (some ⟨b, off, none⟩) n c) none (some (.int .i64 h)) none).run Tryz.prog W = .ok (.slice (some ⟨b, off, none⟩) h.toNat c) W := fun W => by
    rw [cut_h Tryz.underlying24 hi8 hs8 (some ⟨b, off, none⟩) n c .i64 h (by omega) (by omega) W]
    simp [Addr.add]
  have hbA := fun (W : World) (k : Bs W (some ⟨b, off, none⟩) n c l) => k.takeN (k := h.toNat) (by omega)
  have hsd : ∀ (W : World) (d : Nat) (p : Addr) (v : Value), (W.drewN d).setCell p v = (W.setCell p v).drewN d := fun _ _ _ _ => rfl
  have HH := Lib.hid hh
  have HM := Lib.hid hm
  have HF := Lib.hid hf
  have HAM := Lib.hid ham
  have h20 : ¬ (n : Int) < 20 := by omega
  have hgb : 0 ≤ h := by omega
  have HL := Lib.hid hlen
  clear hh hm ham f1 f2 f7 hlen
  by_cases hng : (n : Int) < g
  · have hq : q = true := by
      cases q with
      | true => rfl
      | false => have := f9 rfl; omega
    subst hq
    have hmn : m = n := by rw [HAM.out, if_pos hng]
    subst hmn
    clear f9 f8
    go_enter Tryz.func41, Tryz.ntmps41
    go_wp2_with (first
      | (go_at_call 64; ((with_reducible refine (rget16_any (some ⟨b, off, none⟩) n c l 2 _ hb1).mono ?_); rintro e w2 ⟨rfl, ⟨⟨d2, rfl⟩⟩⟩))
      | (go_at_call 39; ((with_reducible refine (rgood_any (some ⟨b, off, none⟩) h.toNat c (l.take h.toNat) (by omega) _ (hbA _ (hb1.drewN _))).mono ?_); rintro e w3 ⟨rfl, hB3⟩); have R3 := ((blk_new w #[.int .u8 0, .int .u16 0, .bool false, .int .u8 0, .int .u8 0, .int .u32 0, .int .u32 0, .slice none 0 0, .slice none 0 0] 26 _ rfl).drewN d2).below hB3; have b3 := (hb1.drewN d2).below hB3; have T3 := below_then (below_drewN ((Below.refl _ w).alloc (Nat.le_refl _) _) d2) hB3; (obtain ⟨wf, hwf, S⟩ := store9 R3 (.int .u8 0) (.int .u16 0) (.bool false) (.int .u8 0) (.int .u8 0) (.int .u32 0) (.int .u32 0) (.slice none 0 0) (.slice none 0 0)); have pf := S.blk.cell; have rc := R3.cell; have TF := S.bel T3 (Nat.le_refl _))
      | (go_at_call 64; ((with_reducible refine (rget16_any (some ⟨b, off, none⟩) n c l 6 _ b3).mono ?_); rintro e w4 ⟨rfl, ⟨⟨d4, rfl⟩⟩⟩)))
    all_goals have H1 := HE.out
    all_goals simp only [Bool.not_eq_true', Bool.not_eq_false', beq_iff_eq, beq_eq_false_iff_ne, bne_iff_ne, ne_eq, bne_eq_false_iff_eq, true_and, false_and, Bool.false_eq_true, if_false] at *
    all_goals first
      | (refine bodyPost_ret (v := .tuple #[.agg #[.int .u8 0, .int .u16 0, .bool false, .int .u8 0, .int .u8 0, .int .u32 0, .int .u32 0, .slice none 0 0, .slice none 0 0], .int .i64 5]) ?_ rfl (rdPost_no 5 (H1.trans ?_) (by omega) ?_); (focus (simp [results, Tryz.results41, go_sem, pf]; done)); (focus (repeat' split; all_goals first | rfl | omega)); (first | exact TF | exact below_drewN TF _))
      | (refine bodyPost_ret (v := .tuple #[.agg #[.int .u8 0, .int .u16 0, .bool false, .int .u8 0, .int .u8 0, .int .u32 0, .int .u32 0, .slice none 0 0, .slice none 0 0], .int .i64 7]) ?_ rfl (rdPost_no 7 (H1.trans ?_) (by omega) ?_); (focus (simp [results, Tryz.results41, go_sem, pf]; done)); (focus (repeat' split; all_goals first | rfl | omega)); (first | exact TF | exact below_drewN TF _))
      | (refine bodyPost_ret (v := .tuple #[.agg #[.int .u8 0, .int .u16 0, .bool false, .int .u8 0, .int .u8 0, .int .u32 0, .int .u32 0, .slice none 0 0, .slice none 0 0], .int .i64 4]) ?_ rfl (rdPost_no 4 (H1.trans ?_) (by omega) ?_); (focus (simp [results, Tryz.results41, go_sem, pf]; done)); (focus (repeat' split; all_goals first | rfl | omega)); (first | exact TF | exact below_drewN TF _))
      | (refine bodyPost_ret (v := .tuple #[.agg #[.int .u8 0, .int .u16 0, .bool false, .int .u8 0, .int .u8 0, .int .u32 0, .int .u32 0, .slice none 0 0, .slice none 0 0], .int .i64 3]) ?_ rfl (rdPost_no 3 (H1.trans ?_) (by omega) ?_); (focus (simp [results, Tryz.results41, go_sem, pf]; done)); (focus (repeat' split; all_goals first | rfl | omega)); (first | exact TF | exact below_drewN TF _))
      | skip
    have hE : rdE true l = 0 := by
      rw [H1]
      repeat' split
      all_goals first | rfl | omega
    have HE0 := Lib.hid hE
    have b4 := b3.drewN d4
    have R4 := R3.drewN d4
    have T4 := below_drewN T3 d4
    have hrl := R4.lt
    have hcutB : ∀ W, (Instr.slice 24 (.slice (some ⟨b, off, none⟩) n c) (some (.int .i64 20)) (some (.int .i64 h)) none).run Tryz.prog W = _ := fun W => cut_lh Tryz.underlying24 hi8 hs8 (some ⟨b, off, none⟩) n c .i64 .i64 20 h (by omega) (by omega) (by omega) W
    obtain ⟨A2, n2, c2, eA, en, ec, hbB⟩ := hb.cutE (lo := 20) (hi := h.toNat) (by omega) (by omega)
    simp only [show (20 : Int).toNat = 20 from rfl, eA, en, ec] at hcutB
    clear eA en ec
    have hcutC : ∀ W, (Instr.slice 24 (.slice (some ⟨b, off, none⟩) n c) (some (.int .i64 h)) (some (.int .i64 (n : Int))) none).run Tryz.prog W = _ := fun W => cut_lh Tryz.underlying24 hi8 hs8 (some ⟨b, off, none⟩) n c .i64 .i64 h (n : Int) (by omega) (by omega) (by omega) W
    obtain ⟨A3, n3, c3, eA, en, ec, hbC⟩ := hb.cutE (lo := h.toNat) (hi := ((n : Int)).toNat) (by omega) (by omega)
    simp only [eA, en, ec] at hcutC
    clear eA en ec
    have m2 := hbB.max
    have m3 := hbC.max
    have x1 : (1 : Int) < n := by omega
    have x8 : (8 : Int) < n := by omega
    have x9 : (9 : Int) < n := by omega
    obtain ⟨k, hk⟩ : ∃ k, decide (16384 ≤ f) = k := ⟨_, rfl⟩
    have HK : Hid ((get16 l 6 != 0) = k) := by
      unfold Hid
      rw [HF.out, ← hk]
      by_cases z : f = 0
      · rw [z]; rfl
      · rw [show (f != 0) = true from by simpa using z]; exact (decide_eq_true (by omega)).symm
    generalize w3.drewN d4 = w4 at *
    clear hE H1 hs hf hcutA hbA hwf S pf rc TF R3 T3 b3 hB3 hb1 c0 hsd hx4
    refine region_txt 19 (by kernel_rfl) (by kernel_rfl) ?_; (iterate 19 (first | (apply ObsK.skip (by rfl)) | (apply ObsK.v (by rfl); (intro wo hT; (repeat (first | (intro v hv; ((skip))) | (intro _ _ k; try have hcv := cv k))); (have bo := b4.below hT; have c1 := bo.at_ (j := 1) (by omega); have c8 := bo.at_ (j := 8) (by omega); have c9 := bo.at_ (j := 9) (by omega); have zo : w.heap.size + 1 ≤ wo.heap.size := Nat.le_trans hrl hT.size); refine Goes.mk ?_; go_simp; first | exact goes_v | exact goes_b (by assumption) | exact goes_isP zo | (refine goes_enter ?_; first | (go_at_call 64; ((with_reducible refine (rget16_any (some ⟨b, off, none⟩) n c l 4 wo bo).mono ?_); rintro e w5 ⟨rfl, hD5⟩); exact ret_v hD5.bel) | (go_at_call 40; ((with_reducible refine (rget32_any (some ⟨b, off, none⟩) n c l 12 wo bo).mono ?_); rintro e w5 ⟨rfl, hD5⟩); exact ret_v hD5.bel) | (go_at_call 40; ((with_reducible refine (rget32_any (some ⟨b, off, none⟩) n c l 16 wo bo).mono ?_); rintro e w5 ⟨rfl, hD5⟩); exact ret_v hD5.bel)))) | (apply ObsK.b (by rfl); (intro wo hT; (repeat (first | (intro v hv; ((skip))) | (intro _ _ k; try have hcv := cv k))); (have bo := b4.below hT; have c1 := bo.at_ (j := 1) (by omega); have c8 := bo.at_ (j := 8) (by omega); have c9 := bo.at_ (j := 9) (by omega); have zo : w.heap.size + 1 ≤ wo.heap.size := Nat.le_trans hrl hT.size); refine Goes.mk ?_; go_simp; first | exact goes_v | exact goes_b (by assumption) | exact goes_isP zo | (refine goes_enter ?_; first | (go_at_call 64; ((with_reducible refine (rget16_any (some ⟨b, off, none⟩) n c l 4 wo bo).mono ?_); rintro e w5 ⟨rfl, hD5⟩); exact ret_v hD5.bel) | (go_at_call 40; ((with_reducible refine (rget32_any (some ⟨b, off, none⟩) n c l 12 wo bo).mono ?_); rintro e w5 ⟨rfl, hD5⟩); exact ret_v hD5.bel) | (go_at_call 40; ((with_reducible refine (rget32_any (some ⟨b, off, none⟩) n c l 16 wo bo).mono ?_); rintro e w5 ⟨rfl, hD5⟩); exact ret_v hD5.bel)))) | (apply ObsK.p (q := isP (w.heap.size + 1)) (by rfl) st_isP; (intro wo hT; (repeat (first | (intro v hv; ((skip))) | (intro _ _ k; try have hcv := cv k))); (have bo := b4.below hT; have c1 := bo.at_ (j := 1) (by omega); have c8 := bo.at_ (j := 8) (by omega); have c9 := bo.at_ (j := 9) (by omega); have zo : w.heap.size + 1 ≤ wo.heap.size := Nat.le_trans hrl hT.size); refine Goes.mk ?_; go_simp; first | exact goes_v | exact goes_b (by assumption) | exact goes_isP zo | (refine goes_enter ?_; first | (go_at_call 64; ((with_reducible refine (rget16_any (some ⟨b, off, none⟩) n c l 4 wo bo).mono ?_); rintro e w5 ⟨rfl, hD5⟩); exact ret_v hD5.bel) | (go_at_call 40; ((with_reducible refine (rget32_any (some ⟨b, off, none⟩) n c l 12 wo bo).mono ?_); rintro e w5 ⟨rfl, hD5⟩); exact ret_v hD5.bel) | (go_at_call 40; ((with_reducible refine (rget32_any (some ⟨b, off, none⟩) n c l 16 wo bo).mono ?_); rintro e w5 ⟨rfl, hD5⟩); exact ret_v hD5.bel)))))); refine ObsK.nil ?_; intro wz hBz; simp only [finOn, List.drop_succ_cons, List.drop_zero, List.drop_nil]
    intro vp hvp
    obtain ⟨gp, rfl, gB, G⟩ := hvp
    go_simp
    obtain ⟨wg, hwg, SG⟩ := store9 G (.int .u8 (bt l 1)) (.int .u16 (get16 l 4)) (.bool k) (.int .u8 (bt l 8)) (.int .u8 (bt l 9)) (.int .u32 (get32 l 12)) (.int .u32 (get32 l 16)) (.slice none 0 0) (.slice none 0 0)
    have gc := G.cell
    have R5 := SG.other (by omega) (R4.below hBz)
    have T5 := SG.bel (below_then T4 hBz) (by omega)
    have G5 := SG.blk
    go_wp2_with fail
    clear hwg SG gc G R4 T4 b4 hBz hk
    refine region_txt 5 (by kernel_rfl) (by kernel_rfl) ?_; (iterate 5 (first | (apply ObsK.skip (by rfl)) | (apply ObsK.v (by rfl); (intro wo hT; (repeat (first | (intro _ _ k; try have hcv := cv k))); (have gc := (G5.below hT).cell); refine Goes.mk ?_; go_simp; first | exact goes_v | exact goes_b (by assumption) | (refine goes_enter ?_; first | fail))) | (apply ObsK.b (by rfl); (intro wo hT; (repeat (first | (intro _ _ k; try have hcv := cv k))); (have gc := (G5.below hT).cell); refine Goes.mk ?_; go_simp; first | exact goes_v | exact goes_b (by assumption) | (refine goes_enter ?_; first | fail))))); refine ObsK.nil ?_; intro wz hBz; simp only [finOn, List.drop_succ_cons, List.drop_zero, List.drop_nil]
    go_simp
    have R6 := R5.below hBz
    have G6 := G5.below hBz
    have T6 := below_then T5 hBz
    have gl := G6.lt
    have rl := R6.lt
    have fc6 := G6.cell.2
    clear R5 G5 T5 hBz
    go_wp2_with (first
      | (at_builtin; refine wpList_append_bs (w0 := wz) _ rfl _ _ _ rfl wz.heap.size 5 Tryz.underlying24 info_u8 none 0 0 [] rfl (own_nil _ _ _) A2 n2 c2 _ rfl (hbB.below T6) (Below.refl _ _) (by omega) (by first | exact Nat.le_refl _ | exact Below.size (Below.refl _ _) | omega | (simp <;> omega)) ?_; intro A7 n7 c7 w7 ho7 hB7 _ hz7; have u7 : n7 = n2 := (by have := ho7.len; have := hbB.len; simp at *; omega); subst u7; have g7 := (G6.below hB7).cell))
    have a7 := ho7.ge
    have k7 := ho7.bs
    have G8 : Blk (w7.setCell ⟨gp, 7, none⟩ (.slice A7 n7 c7)) gp #[.int .u8 (bt l 1), .int .u16 (get16 l 4), .bool k, .int .u8 (bt l 8), .int .u8 (bt l 9), .int .u32 (get32 l 12), .int .u32 (get32 l 16), .slice A7 n7 c7, .slice none 0 0] 26 := by
      have := (G6.below hB7).set_ 7 (.slice A7 n7 c7)
      simp only [List.setIfInBounds_toArray, List.set_cons_zero, List.set_cons_succ] at this
      exact this
    have R8 := (R6.below hB7).far ⟨gp, 7, none⟩ (by simp; omega) (.slice A7 n7 c7)
    have T8 := (below_then T6 hB7).setCell (p := ⟨gp, 7, none⟩) (by simp; omega) (.slice A7 n7 c7)
    have k8 := k7.away ⟨gp, 7, none⟩ (fun a e => by have := a7 a e; simp; omega) (.slice A7 n7 c7)
    have a8 : ∀ a, A7 = some a → gp < a.block := fun a e => by have := a7 a e; omega
    generalize w7.setCell ⟨gp, 7, none⟩ (.slice A7 n7 c7) = w8 at *
    clear g7 fc6 ho7 hB7 k7 a7 G6 R6 T6 gl rl hz7
    refine region_txt 6 (by kernel_rfl) (by kernel_rfl) ?_; (iterate 6 (first | (apply ObsK.skip (by rfl)) | (apply ObsK.v (by rfl); (intro wo hT; (repeat (first | (intro _ _ k; try have hcv := cv k))); (have gc := (G8.below hT).cell); refine Goes.mk ?_; go_simp; first | exact goes_v | exact goes_b (by assumption) | (refine goes_enter ?_; first | fail))) | (apply ObsK.b (by rfl); (intro wo hT; (repeat (first | (intro _ _ k; try have hcv := cv k))); (have gc := (G8.below hT).cell); refine Goes.mk ?_; go_simp; first | exact goes_v | exact goes_b (by assumption) | (refine goes_enter ?_; first | fail))))); refine ObsK.nil ?_; intro wz hBz; simp only [finOn, List.drop_succ_cons, List.drop_zero, List.drop_nil]
    go_simp
    have R9 := R8.below hBz
    have G9 := G8.below hBz
    have T9 := below_then T8 hBz
    have k9 := k8.below hBz
    have gl := G9.lt
    have rl := R9.lt
    have fc9 := G9.cell.2
    clear R8 G8 T8 hBz k8
    go_wp2_with (first
      | (at_builtin; refine wpList_append_bs (w0 := wz) _ rfl _ _ _ rfl wz.heap.size 5 Tryz.underlying24 info_u8 none 0 0 [] rfl (own_nil _ _ _) A3 n3 c3 _ rfl (hbC.below T9) (Below.refl _ _) (by omega) (by first | exact Nat.le_refl _ | exact Below.size (Below.refl _ _) | omega | (simp <;> omega)) ?_; intro A10 n10 c10 w10 ho10 hB10 _ hz10; have u10 : n10 = n3 := (by have := ho10.len; have := hbC.len; simp at *; omega); subst u10; have g10 := (G9.below hB10).cell; have r10 := (R9.below hB10).cell; (obtain ⟨w11, hw11, S11⟩ := store1 (G9.below hB10) 8 (.slice A10 n10 c10)); have g11 := S11.blk.cell; have R11 := S11.other (by omega) (R9.below hB10); have r11 := R11.cell; (obtain ⟨w12, hw12, S12⟩ := store9 R11 (.int .u8 (bt l 1)) (.int .u16 (get16 l 4)) (.bool k) (.int .u8 (bt l 8)) (.int .u8 (bt l 9)) (.int .u32 (get32 l 12)) (.int .u32 (get32 l 16)) (.slice A7 n7 c7) (.slice A10 n10 c10))))
    have a10 := ho10.ge
    have k10 := ho10.bs
    have T12 := S12.bel (S11.bel (below_then T9 hB10) (by omega)) (Nat.le_refl _)
    have K10 := S12.bs (S11.bs k10 (fun a e => by have := a10 a e; omega)) (fun a e => by have := a10 a e; omega)
    have K9 := S12.bs (S11.bs (k9.below hB10) (fun a e => by have := a8 a e; omega)) (fun a e => by have := a8 a e; omega)
    have pf := S12.blk.cell
    have hR : rdPk true l = rdP l := by unfold rdPk; rw [if_pos HE0.out]
    have e1 : (rdP l).keep = k := HK.out
    have e2 : (rdP l).opt = List.drop 20 (List.take h.toNat l) := by rw [← HH.out]; rfl
    have e3 : (rdP l).dat = List.drop h.toNat (List.take ((n : Int)).toNat l) := by rw [← HH.out, ← HM.out]; rfl
    refine bodyPost_ret (v := .tuple #[.agg #[.int .u8 (bt l 1), .int .u16 (get16 l 4), .bool k, .int .u8 (bt l 8), .int .u8 (bt l 9), .int .u32 (get32 l 12), .int .u32 (get32 l 16), .slice A7 n7 c7, .slice A10 n10 c10], .int .i64 0]) (by simp [results, Tryz.results41, go_sem, pf]) rfl
      ⟨A7, n7, c7, A10, n10, c10, by rw [hR, HE0.out, e1]; rfl, by rw [hR, e2]; exact K9, by rw [hR, e3]; exact K10, fun a e => by have := a8 a e; omega, fun a e => by have := a10 a e; omega, T12⟩
  · have hmg : m = g := by rw [HAM.out, if_neg hng]
    rw [hmg] at f5 f6 HE HM
    have hgn : g ≤ (n : Int) := by omega
    clear hmg HAM hng f8 f9
    cases q with
    | true =>
      go_enter Tryz.func41, Tryz.ntmps41
      go_wp2_with (first
        | (go_at_call 64; ((with_reducible refine (rget16_any (some ⟨b, off, none⟩) n c l 2 _ hb1).mono ?_); rintro e w2 ⟨rfl, ⟨⟨d2, rfl⟩⟩⟩))
        | (go_at_call 39; ((with_reducible refine (rgood_any (some ⟨b, off, none⟩) h.toNat c (l.take h.toNat) (by omega) _ (hbA _ (hb1.drewN _))).mono ?_); rintro e w3 ⟨rfl, hB3⟩); have R3 := ((blk_new w #[.int .u8 0, .int .u16 0, .bool false, .int .u8 0, .int .u8 0, .int .u32 0, .int .u32 0, .slice none 0 0, .slice none 0 0] 26 _ rfl).drewN d2).below hB3; have b3 := (hb1.drewN d2).below hB3; have T3 := below_then (below_drewN ((Below.refl _ w).alloc (Nat.le_refl _) _) d2) hB3; (obtain ⟨wf, hwf, S⟩ := store9 R3 (.int .u8 0) (.int .u16 0) (.bool false) (.int .u8 0) (.int .u8 0) (.int .u32 0) (.int .u32 0) (.slice none 0 0) (.slice none 0 0)); have pf := S.blk.cell; have rc := R3.cell; have TF := S.bel T3 (Nat.le_refl _))
        | (go_at_call 64; ((with_reducible refine (rget16_any (some ⟨b, off, none⟩) n c l 6 _ b3).mono ?_); rintro e w4 ⟨rfl, ⟨⟨d4, rfl⟩⟩⟩)))
      all_goals have H1 := HE.out
      all_goals simp only [Bool.not_eq_true', Bool.not_eq_false', beq_iff_eq, beq_eq_false_iff_ne, bne_iff_ne, ne_eq, bne_eq_false_iff_eq, true_and, false_and, Bool.false_eq_true, if_false] at *
      all_goals first
        | (refine bodyPost_ret (v := .tuple #[.agg #[.int .u8 0, .int .u16 0, .bool false, .int .u8 0, .int .u8 0, .int .u32 0, .int .u32 0, .slice none 0 0, .slice none 0 0], .int .i64 5]) ?_ rfl (rdPost_no 5 (H1.trans ?_) (by omega) ?_); (focus (simp [results, Tryz.results41, go_sem, pf]; done)); (focus (repeat' split; all_goals first | rfl | omega)); (first | exact TF | exact below_drewN TF _))
        | (refine bodyPost_ret (v := .tuple #[.agg #[.int .u8 0, .int .u16 0, .bool false, .int .u8 0, .int .u8 0, .int .u32 0, .int .u32 0, .slice none 0 0, .slice none 0 0], .int .i64 7]) ?_ rfl (rdPost_no 7 (H1.trans ?_) (by omega) ?_); (focus (simp [results, Tryz.results41, go_sem, pf]; done)); (focus (repeat' split; all_goals first | rfl | omega)); (first | exact TF | exact below_drewN TF _))
        | (refine bodyPost_ret (v := .tuple #[.agg #[.int .u8 0, .int .u16 0, .bool false, .int .u8 0, .int .u8 0, .int .u32 0, .int .u32 0, .slice none 0 0, .slice none 0 0], .int .i64 4]) ?_ rfl (rdPost_no 4 (H1.trans ?_) (by omega) ?_); (focus (simp [results, Tryz.results41, go_sem, pf]; done)); (focus (repeat' split; all_goals first | rfl | omega)); (first | exact TF | exact below_drewN TF _))
        | (refine bodyPost_ret (v := .tuple #[.agg #[.int .u8 0, .int .u16 0, .bool false, .int .u8 0, .int .u8 0, .int .u32 0, .int .u32 0, .slice none 0 0, .slice none 0 0], .int .i64 3]) ?_ rfl (rdPost_no 3 (H1.trans ?_) (by omega) ?_); (focus (simp [results, Tryz.results41, go_sem, pf]; done)); (focus (repeat' split; all_goals first | rfl | omega)); (first | exact TF | exact below_drewN TF _))
        | skip
      have hE : rdE true l = 0 := by
        rw [H1]
        repeat' split
        all_goals first | rfl | omega
      have HE0 := Lib.hid hE
      have b4 := b3.drewN d4
      have R4 := R3.drewN d4
      have T4 := below_drewN T3 d4
      have hrl := R4.lt
      have hcutB : ∀ W, (Instr.slice 24 (.slice (some ⟨b, off, none⟩) n c) (some (.int .i64 20)) (some (.int .i64 h)) none).run Tryz.prog W = _ := fun W => cut_lh Tryz.underlying24 hi8 hs8 (some ⟨b, off, none⟩) n c .i64 .i64 20 h (by omega) (by omega) (by omega) W
      obtain ⟨A2, n2, c2, eA, en, ec, hbB⟩ := hb.cutE (lo := 20) (hi := h.toNat) (by omega) (by omega)
      simp only [show (20 : Int).toNat = 20 from rfl, eA, en, ec] at hcutB
      clear eA en ec
      have hcutC : ∀ W, (Instr.slice 24 (.slice (some ⟨b, off, none⟩) n c) (some (.int .i64 h)) (some (.int .i64 g)) none).run Tryz.prog W = _ := fun W => cut_lh Tryz.underlying24 hi8 hs8 (some ⟨b, off, none⟩) n c .i64 .i64 h g (by omega) (by omega) (by omega) W
      obtain ⟨A3, n3, c3, eA, en, ec, hbC⟩ := hb.cutE (lo := h.toNat) (hi := (g).toNat) (by omega) (by omega)
      simp only [eA, en, ec] at hcutC
      clear eA en ec
      have m2 := hbB.max
      have m3 := hbC.max
      have x1 : (1 : Int) < n := by omega
      have x8 : (8 : Int) < n := by omega
      have x9 : (9 : Int) < n := by omega
      obtain ⟨k, hk⟩ : ∃ k, decide (16384 ≤ f) = k := ⟨_, rfl⟩
      have HK : Hid ((get16 l 6 != 0) = k) := by
        unfold Hid
        rw [HF.out, ← hk]
        by_cases z : f = 0
        · rw [z]; rfl
        · rw [show (f != 0) = true from by simpa using z]; exact (decide_eq_true (by omega)).symm
      generalize w3.drewN d4 = w4 at *
      clear hE H1 hs hf hcutA hbA hwf S pf rc TF R3 T3 b3 hB3 hb1 c0 hsd hx4
      refine region_txt 19 (by kernel_rfl) (by kernel_rfl) ?_; (iterate 19 (first | (apply ObsK.skip (by rfl)) | (apply ObsK.v (by rfl); (intro wo hT; (repeat (first | (intro v hv; ((skip))) | (intro _ _ k; try have hcv := cv k))); (have bo := b4.below hT; have c1 := bo.at_ (j := 1) (by omega); have c8 := bo.at_ (j := 8) (by omega); have c9 := bo.at_ (j := 9) (by omega); have zo : w.heap.size + 1 ≤ wo.heap.size := Nat.le_trans hrl hT.size); refine Goes.mk ?_; go_simp; first | exact goes_v | exact goes_b (by assumption) | exact goes_isP zo | (refine goes_enter ?_; first | (go_at_call 64; ((with_reducible refine (rget16_any (some ⟨b, off, none⟩) n c l 4 wo bo).mono ?_); rintro e w5 ⟨rfl, hD5⟩); exact ret_v hD5.bel) | (go_at_call 40; ((with_reducible refine (rget32_any (some ⟨b, off, none⟩) n c l 12 wo bo).mono ?_); rintro e w5 ⟨rfl, hD5⟩); exact ret_v hD5.bel) | (go_at_call 40; ((with_reducible refine (rget32_any (some ⟨b, off, none⟩) n c l 16 wo bo).mono ?_); rintro e w5 ⟨rfl, hD5⟩); exact ret_v hD5.bel)))) | (apply ObsK.b (by rfl); (intro wo hT; (repeat (first | (intro v hv; ((skip))) | (intro _ _ k; try have hcv := cv k))); (have bo := b4.below hT; have c1 := bo.at_ (j := 1) (by omega); have c8 := bo.at_ (j := 8) (by omega); have c9 := bo.at_ (j := 9) (by omega); have zo : w.heap.size + 1 ≤ wo.heap.size := Nat.le_trans hrl hT.size); refine Goes.mk ?_; go_simp; first | exact goes_v | exact goes_b (by assumption) | exact goes_isP zo | (refine goes_enter ?_; first | (go_at_call 64; ((with_reducible refine (rget16_any (some ⟨b, off, none⟩) n c l 4 wo bo).mono ?_); rintro e w5 ⟨rfl, hD5⟩); exact ret_v hD5.bel) | (go_at_call 40; ((with_reducible refine (rget32_any (some ⟨b, off, none⟩) n c l 12 wo bo).mono ?_); rintro e w5 ⟨rfl, hD5⟩); exact ret_v hD5.bel) | (go_at_call 40; ((with_reducible refine (rget32_any (some ⟨b, off, none⟩) n c l 16 wo bo).mono ?_); rintro e w5 ⟨rfl, hD5⟩); exact ret_v hD5.bel)))) | (apply ObsK.p (q := isP (w.heap.size + 1)) (by rfl) st_isP; (intro wo hT; (repeat (first | (intro v hv; ((skip))) | (intro _ _ k; try have hcv := cv k))); (have bo := b4.below hT; have c1 := bo.at_ (j := 1) (by omega); have c8 := bo.at_ (j := 8) (by omega); have c9 := bo.at_ (j := 9) (by omega); have zo : w.heap.size + 1 ≤ wo.heap.size := Nat.le_trans hrl hT.size); refine Goes.mk ?_; go_simp; first | exact goes_v | exact goes_b (by assumption) | exact goes_isP zo | (refine goes_enter ?_; first | (go_at_call 64; ((with_reducible refine (rget16_any (some ⟨b, off, none⟩) n c l 4 wo bo).mono ?_); rintro e w5 ⟨rfl, hD5⟩); exact ret_v hD5.bel) | (go_at_call 40; ((with_reducible refine (rget32_any (some ⟨b, off, none⟩) n c l 12 wo bo).mono ?_); rintro e w5 ⟨rfl, hD5⟩); exact ret_v hD5.bel) | (go_at_call 40; ((with_reducible refine (rget32_any (some ⟨b, off, none⟩) n c l 16 wo bo).mono ?_); rintro e w5 ⟨rfl, hD5⟩); exact ret_v hD5.bel)))))); refine ObsK.nil ?_; intro wz hBz; simp only [finOn, List.drop_succ_cons, List.drop_zero, List.drop_nil]
      intro vp hvp
      obtain ⟨gp, rfl, gB, G⟩ := hvp
      go_simp
      obtain ⟨wg, hwg, SG⟩ := store9 G (.int .u8 (bt l 1)) (.int .u16 (get16 l 4)) (.bool k) (.int .u8 (bt l 8)) (.int .u8 (bt l 9)) (.int .u32 (get32 l 12)) (.int .u32 (get32 l 16)) (.slice none 0 0) (.slice none 0 0)
      have gc := G.cell
      have R5 := SG.other (by omega) (R4.below hBz)
      have T5 := SG.bel (below_then T4 hBz) (by omega)
      have G5 := SG.blk
      go_wp2_with fail
      clear hwg SG gc G R4 T4 b4 hBz hk
      refine region_txt 5 (by kernel_rfl) (by kernel_rfl) ?_; (iterate 5 (first | (apply ObsK.skip (by rfl)) | (apply ObsK.v (by rfl); (intro wo hT; (repeat (first | (intro _ _ k; try have hcv := cv k))); (have gc := (G5.below hT).cell); refine Goes.mk ?_; go_simp; first | exact goes_v | exact goes_b (by assumption) | (refine goes_enter ?_; first | fail))) | (apply ObsK.b (by rfl); (intro wo hT; (repeat (first | (intro _ _ k; try have hcv := cv k))); (have gc := (G5.below hT).cell); refine Goes.mk ?_; go_simp; first | exact goes_v | exact goes_b (by assumption) | (refine goes_enter ?_; first | fail))))); refine ObsK.nil ?_; intro wz hBz; simp only [finOn, List.drop_succ_cons, List.drop_zero, List.drop_nil]
      go_simp
      have R6 := R5.below hBz
      have G6 := G5.below hBz
      have T6 := below_then T5 hBz
      have gl := G6.lt
      have rl := R6.lt
      have fc6 := G6.cell.2
      clear R5 G5 T5 hBz
      go_wp2_with (first
        | (at_builtin; refine wpList_append_bs (w0 := wz) _ rfl _ _ _ rfl wz.heap.size 5 Tryz.underlying24 info_u8 none 0 0 [] rfl (own_nil _ _ _) A2 n2 c2 _ rfl (hbB.below T6) (Below.refl _ _) (by omega) (by first | exact Nat.le_refl _ | exact Below.size (Below.refl _ _) | omega | (simp <;> omega)) ?_; intro A7 n7 c7 w7 ho7 hB7 _ hz7; have u7 : n7 = n2 := (by have := ho7.len; have := hbB.len; simp at *; omega); subst u7; have g7 := (G6.below hB7).cell))
      have a7 := ho7.ge
      have k7 := ho7.bs
      have G8 : Blk (w7.setCell ⟨gp, 7, none⟩ (.slice A7 n7 c7)) gp #[.int .u8 (bt l 1), .int .u16 (get16 l 4), .bool k, .int .u8 (bt l 8), .int .u8 (bt l 9), .int .u32 (get32 l 12), .int .u32 (get32 l 16), .slice A7 n7 c7, .slice none 0 0] 26 := by
        have := (G6.below hB7).set_ 7 (.slice A7 n7 c7)
        simp only [List.setIfInBounds_toArray, List.set_cons_zero, List.set_cons_succ] at this
        exact this
      have R8 := (R6.below hB7).far ⟨gp, 7, none⟩ (by simp; omega) (.slice A7 n7 c7)
      have T8 := (below_then T6 hB7).setCell (p := ⟨gp, 7, none⟩) (by simp; omega) (.slice A7 n7 c7)
      have k8 := k7.away ⟨gp, 7, none⟩ (fun a e => by have := a7 a e; simp; omega) (.slice A7 n7 c7)
      have a8 : ∀ a, A7 = some a → gp < a.block := fun a e => by have := a7 a e; omega
      generalize w7.setCell ⟨gp, 7, none⟩ (.slice A7 n7 c7) = w8 at *
      clear g7 fc6 ho7 hB7 k7 a7 G6 R6 T6 gl rl hz7
      refine region_txt 6 (by kernel_rfl) (by kernel_rfl) ?_; (iterate 6 (first | (apply ObsK.skip (by rfl)) | (apply ObsK.v (by rfl); (intro wo hT; (repeat (first | (intro _ _ k; try have hcv := cv k))); (have gc := (G8.below hT).cell); refine Goes.mk ?_; go_simp; first | exact goes_v | exact goes_b (by assumption) | (refine goes_enter ?_; first | fail))) | (apply ObsK.b (by rfl); (intro wo hT; (repeat (first | (intro _ _ k; try have hcv := cv k))); (have gc := (G8.below hT).cell); refine Goes.mk ?_; go_simp; first | exact goes_v | exact goes_b (by assumption) | (refine goes_enter ?_; first | fail))))); refine ObsK.nil ?_; intro wz hBz; simp only [finOn, List.drop_succ_cons, List.drop_zero, List.drop_nil]
      go_simp
      have R9 := R8.below hBz
      have G9 := G8.below hBz
      have T9 := below_then T8 hBz
      have k9 := k8.below hBz
      have gl := G9.lt
      have rl := R9.lt
      have fc9 := G9.cell.2
      clear R8 G8 T8 hBz k8
      go_wp2_with (first
        | (at_builtin; refine wpList_append_bs (w0 := wz) _ rfl _ _ _ rfl wz.heap.size 5 Tryz.underlying24 info_u8 none 0 0 [] rfl (own_nil _ _ _) A3 n3 c3 _ rfl (hbC.below T9) (Below.refl _ _) (by omega) (by first | exact Nat.le_refl _ | exact Below.size (Below.refl _ _) | omega | (simp <;> omega)) ?_; intro A10 n10 c10 w10 ho10 hB10 _ hz10; have u10 : n10 = n3 := (by have := ho10.len; have := hbC.len; simp at *; omega); subst u10; have g10 := (G9.below hB10).cell; have r10 := (R9.below hB10).cell; (obtain ⟨w11, hw11, S11⟩ := store1 (G9.below hB10) 8 (.slice A10 n10 c10)); have g11 := S11.blk.cell; have R11 := S11.other (by omega) (R9.below hB10); have r11 := R11.cell; (obtain ⟨w12, hw12, S12⟩ := store9 R11 (.int .u8 (bt l 1)) (.int .u16 (get16 l 4)) (.bool k) (.int .u8 (bt l 8)) (.int .u8 (bt l 9)) (.int .u32 (get32 l 12)) (.int .u32 (get32 l 16)) (.slice A7 n7 c7) (.slice A10 n10 c10))))
      have a10 := ho10.ge
      have k10 := ho10.bs
      have T12 := S12.bel (S11.bel (below_then T9 hB10) (by omega)) (Nat.le_refl _)
      have K10 := S12.bs (S11.bs k10 (fun a e => by have := a10 a e; omega)) (fun a e => by have := a10 a e; omega)
      have K9 := S12.bs (S11.bs (k9.below hB10) (fun a e => by have := a8 a e; omega)) (fun a e => by have := a8 a e; omega)
      have pf := S12.blk.cell
      have hR : rdPk true l = rdP l := by unfold rdPk; rw [if_pos HE0.out]
      have e1 : (rdP l).keep = k := HK.out
      have e2 : (rdP l).opt = List.drop 20 (List.take h.toNat l) := by rw [← HH.out]; rfl
      have e3 : (rdP l).dat = List.drop h.toNat (List.take (g).toNat l) := by rw [← HH.out, ← HM.out]; rfl
      refine bodyPost_ret (v := .tuple #[.agg #[.int .u8 (bt l 1), .int .u16 (get16 l 4), .bool k, .int .u8 (bt l 8), .int .u8 (bt l 9), .int .u32 (get32 l 12), .int .u32 (get32 l 16), .slice A7 n7 c7, .slice A10 n10 c10], .int .i64 0]) (by simp [results, Tryz.results41, go_sem, pf]) rfl
        ⟨A7, n7, c7, A10, n10, c10, by rw [hR, HE0.out, e1]; rfl, by rw [hR, e2]; exact K9, by rw [hR, e3]; exact K10, fun a e => by have := a8 a e; omega, fun a e => by have := a10 a e; omega, T12⟩
    | false =>
      go_enter Tryz.func41, Tryz.ntmps41
      go_wp2_with (first
        | (go_at_call 64; ((with_reducible refine (rget16_any (some ⟨b, off, none⟩) n c l 2 _ hb1).mono ?_); rintro e w2 ⟨rfl, ⟨⟨d2, rfl⟩⟩⟩))
        | (go_at_call 39; ((with_reducible refine (rgood_any (some ⟨b, off, none⟩) h.toNat c (l.take h.toNat) (by omega) _ (hbA _ (hb1.drewN _))).mono ?_); rintro e w3 ⟨rfl, hB3⟩); have R3 := ((blk_new w #[.int .u8 0, .int .u16 0, .bool false, .int .u8 0, .int .u8 0, .int .u32 0, .int .u32 0, .slice none 0 0, .slice none 0 0] 26 _ rfl).drewN d2).below hB3; have b3 := (hb1.drewN d2).below hB3; have T3 := below_then (below_drewN ((Below.refl _ w).alloc (Nat.le_refl _) _) d2) hB3; (obtain ⟨wf, hwf, S⟩ := store9 R3 (.int .u8 0) (.int .u16 0) (.bool false) (.int .u8 0) (.int .u8 0) (.int .u32 0) (.int .u32 0) (.slice none 0 0) (.slice none 0 0)); have pf := S.blk.cell; have rc := R3.cell; have TF := S.bel T3 (Nat.le_refl _))
        | (go_at_call 64; ((with_reducible refine (rget16_any (some ⟨b, off, none⟩) n c l 6 _ b3).mono ?_); rintro e w4 ⟨rfl, ⟨⟨d4, rfl⟩⟩⟩)))
      all_goals have H1 := HE.out
      all_goals simp only [Bool.not_eq_true', Bool.not_eq_false', beq_iff_eq, beq_eq_false_iff_ne, bne_iff_ne, ne_eq, bne_eq_false_iff_eq, true_and, false_and, Bool.false_eq_true, if_false] at *
      all_goals first
        | (refine bodyPost_ret (v := .tuple #[.agg #[.int .u8 0, .int .u16 0, .bool false, .int .u8 0, .int .u8 0, .int .u32 0, .int .u32 0, .slice none 0 0, .slice none 0 0], .int .i64 5]) ?_ rfl (rdPost_no 5 (H1.trans ?_) (by omega) ?_); (focus (simp [results, Tryz.results41, go_sem, pf]; done)); (focus (repeat' split; all_goals first | rfl | omega)); (first | exact TF | exact below_drewN TF _))
        | (refine bodyPost_ret (v := .tuple #[.agg #[.int .u8 0, .int .u16 0, .bool false, .int .u8 0, .int .u8 0, .int .u32 0, .int .u32 0, .slice none 0 0, .slice none 0 0], .int .i64 7]) ?_ rfl (rdPost_no 7 (H1.trans ?_) (by omega) ?_); (focus (simp [results, Tryz.results41, go_sem, pf]; done)); (focus (repeat' split; all_goals first | rfl | omega)); (first | exact TF | exact below_drewN TF _))
        | (refine bodyPost_ret (v := .tuple #[.agg #[.int .u8 0, .int .u16 0, .bool false, .int .u8 0, .int .u8 0, .int .u32 0, .int .u32 0, .slice none 0 0, .slice none 0 0], .int .i64 4]) ?_ rfl (rdPost_no 4 (H1.trans ?_) (by omega) ?_); (focus (simp [results, Tryz.results41, go_sem, pf]; done)); (focus (repeat' split; all_goals first | rfl | omega)); (first | exact TF | exact below_drewN TF _))
        | (refine bodyPost_ret (v := .tuple #[.agg #[.int .u8 0, .int .u16 0, .bool false, .int .u8 0, .int .u8 0, .int .u32 0, .int .u32 0, .slice none 0 0, .slice none 0 0], .int .i64 3]) ?_ rfl (rdPost_no 3 (H1.trans ?_) (by omega) ?_); (focus (simp [results, Tryz.results41, go_sem, pf]; done)); (focus (repeat' split; all_goals first | rfl | omega)); (first | exact TF | exact below_drewN TF _))
        | skip
      have hE : rdE false l = 0 := by
        rw [H1]
        repeat' split
        all_goals first | rfl | omega
      have HE0 := Lib.hid hE
      have b4 := b3.drewN d4
      have R4 := R3.drewN d4
      have T4 := below_drewN T3 d4
      have hrl := R4.lt
      have hcutB : ∀ W, (Instr.slice 24 (.slice (some ⟨b, off, none⟩) n c) (some (.int .i64 20)) (some (.int .i64 h)) none).run Tryz.prog W = _ := fun W => cut_lh Tryz.underlying24 hi8 hs8 (some ⟨b, off, none⟩) n c .i64 .i64 20 h (by omega) (by omega) (by omega) W
      obtain ⟨A2, n2, c2, eA, en, ec, hbB⟩ := hb.cutE (lo := 20) (hi := h.toNat) (by omega) (by omega)
      simp only [show (20 : Int).toNat = 20 from rfl, eA, en, ec] at hcutB
      clear eA en ec
      have hcutC : ∀ W, (Instr.slice 24 (.slice (some ⟨b, off, none⟩) n c) (some (.int .i64 h)) (some (.int .i64 g)) none).run Tryz.prog W = _ := fun W => cut_lh Tryz.underlying24 hi8 hs8 (some ⟨b, off, none⟩) n c .i64 .i64 h g (by omega) (by omega) (by omega) W
      obtain ⟨A3, n3, c3, eA, en, ec, hbC⟩ := hb.cutE (lo := h.toNat) (hi := (g).toNat) (by omega) (by omega)
      simp only [eA, en, ec] at hcutC
      clear eA en ec
      have m2 := hbB.max
      have m3 := hbC.max
      have x1 : (1 : Int) < n := by omega
      have x8 : (8 : Int) < n := by omega
      have x9 : (9 : Int) < n := by omega
      obtain ⟨k, hk⟩ : ∃ k, decide (16384 ≤ f) = k := ⟨_, rfl⟩
      have HK : Hid ((get16 l 6 != 0) = k) := by
        unfold Hid
        rw [HF.out, ← hk]
        by_cases z : f = 0
        · rw [z]; rfl
        · rw [show (f != 0) = true from by simpa using z]; exact (decide_eq_true (by omega)).symm
      generalize w3.drewN d4 = w4 at *
      clear hE H1 hs hf hcutA hbA hwf S pf rc TF R3 T3 b3 hB3 hb1 c0 hsd hx4
      refine region_txt 19 (by kernel_rfl) (by kernel_rfl) ?_; (iterate 19 (first | (apply ObsK.skip (by rfl)) | (apply ObsK.v (by rfl); (intro wo hT; (repeat (first | (intro v hv; ((skip))) | (intro _ _ k; try have hcv := cv k))); (have bo := b4.below hT; have c1 := bo.at_ (j := 1) (by omega); have c8 := bo.at_ (j := 8) (by omega); have c9 := bo.at_ (j := 9) (by omega); have zo : w.heap.size + 1 ≤ wo.heap.size := Nat.le_trans hrl hT.size); refine Goes.mk ?_; go_simp; first | exact goes_v | exact goes_b (by assumption) | exact goes_isP zo | (refine goes_enter ?_; first | (go_at_call 64; ((with_reducible refine (rget16_any (some ⟨b, off, none⟩) n c l 4 wo bo).mono ?_); rintro e w5 ⟨rfl, hD5⟩); exact ret_v hD5.bel) | (go_at_call 40; ((with_reducible refine (rget32_any (some ⟨b, off, none⟩) n c l 12 wo bo).mono ?_); rintro e w5 ⟨rfl, hD5⟩); exact ret_v hD5.bel) | (go_at_call 40; ((with_reducible refine (rget32_any (some ⟨b, off, none⟩) n c l 16 wo bo).mono ?_); rintro e w5 ⟨rfl, hD5⟩); exact ret_v hD5.bel)))) | (apply ObsK.b (by rfl); (intro wo hT; (repeat (first | (intro v hv; ((skip))) | (intro _ _ k; try have hcv := cv k))); (have bo := b4.below hT; have c1 := bo.at_ (j := 1) (by omega); have c8 := bo.at_ (j := 8) (by omega); have c9 := bo.at_ (j := 9) (by omega); have zo : w.heap.size + 1 ≤ wo.heap.size := Nat.le_trans hrl hT.size); refine Goes.mk ?_; go_simp; first | exact goes_v | exact goes_b (by assumption) | exact goes_isP zo | (refine goes_enter ?_; first | (go_at_call 64; ((with_reducible refine (rget16_any (some ⟨b, off, none⟩) n c l 4 wo bo).mono ?_); rintro e w5 ⟨rfl, hD5⟩); exact ret_v hD5.bel) | (go_at_call 40; ((with_reducible refine (rget32_any (some ⟨b, off, none⟩) n c l 12 wo bo).mono ?_); rintro e w5 ⟨rfl, hD5⟩); exact ret_v hD5.bel) | (go_at_call 40; ((with_reducible refine (rget32_any (some ⟨b, off, none⟩) n c l 16 wo bo).mono ?_); rintro e w5 ⟨rfl, hD5⟩); exact ret_v hD5.bel)))) | (apply ObsK.p (q := isP (w.heap.size + 1)) (by rfl) st_isP; (intro wo hT; (repeat (first | (intro v hv; ((skip))) | (intro _ _ k; try have hcv := cv k))); (have bo := b4.below hT; have c1 := bo.at_ (j := 1) (by omega); have c8 := bo.at_ (j := 8) (by omega); have c9 := bo.at_ (j := 9) (by omega); have zo : w.heap.size + 1 ≤ wo.heap.size := Nat.le_trans hrl hT.size); refine Goes.mk ?_; go_simp; first | exact goes_v | exact goes_b (by assumption) | exact goes_isP zo | (refine goes_enter ?_; first | (go_at_call 64; ((with_reducible refine (rget16_any (some ⟨b, off, none⟩) n c l 4 wo bo).mono ?_); rintro e w5 ⟨rfl, hD5⟩); exact ret_v hD5.bel) | (go_at_call 40; ((with_reducible refine (rget32_any (some ⟨b, off, none⟩) n c l 12 wo bo).mono ?_); rintro e w5 ⟨rfl, hD5⟩); exact ret_v hD5.bel) | (go_at_call 40; ((with_reducible refine (rget32_any (some ⟨b, off, none⟩) n c l 16 wo bo).mono ?_); rintro e w5 ⟨rfl, hD5⟩); exact ret_v hD5.bel)))))); refine ObsK.nil ?_; intro wz hBz; simp only [finOn, List.drop_succ_cons, List.drop_zero, List.drop_nil]
      intro vp hvp
      obtain ⟨gp, rfl, gB, G⟩ := hvp
      go_simp
      obtain ⟨wg, hwg, SG⟩ := store9 G (.int .u8 (bt l 1)) (.int .u16 (get16 l 4)) (.bool k) (.int .u8 (bt l 8)) (.int .u8 (bt l 9)) (.int .u32 (get32 l 12)) (.int .u32 (get32 l 16)) (.slice none 0 0) (.slice none 0 0)
      have gc := G.cell
      have R5 := SG.other (by omega) (R4.below hBz)
      have T5 := SG.bel (below_then T4 hBz) (by omega)
      have G5 := SG.blk
      go_wp2_with fail
      clear hwg SG gc G R4 T4 b4 hBz hk
      refine region_txt 5 (by kernel_rfl) (by kernel_rfl) ?_; (iterate 5 (first | (apply ObsK.skip (by rfl)) | (apply ObsK.v (by rfl); (intro wo hT; (repeat (first | (intro _ _ k; try have hcv := cv k))); (have gc := (G5.below hT).cell); refine Goes.mk ?_; go_simp; first | exact goes_v | exact goes_b (by assumption) | (refine goes_enter ?_; first | fail))) | (apply ObsK.b (by rfl); (intro wo hT; (repeat (first | (intro _ _ k; try have hcv := cv k))); (have gc := (G5.below hT).cell); refine Goes.mk ?_; go_simp; first | exact goes_v | exact goes_b (by assumption) | (refine goes_enter ?_; first | fail))))); refine ObsK.nil ?_; intro wz hBz; simp only [finOn, List.drop_succ_cons, List.drop_zero, List.drop_nil]
      go_simp
      have R6 := R5.below hBz
      have G6 := G5.below hBz
      have T6 := below_then T5 hBz
      have gl := G6.lt
      have rl := R6.lt
      have fc6 := G6.cell.2
      clear R5 G5 T5 hBz
      go_wp2_with (first
        | (at_builtin; refine wpList_append_bs (w0 := wz) _ rfl _ _ _ rfl wz.heap.size 5 Tryz.underlying24 info_u8 none 0 0 [] rfl (own_nil _ _ _) A2 n2 c2 _ rfl (hbB.below T6) (Below.refl _ _) (by omega) (by first | exact Nat.le_refl _ | exact Below.size (Below.refl _ _) | omega | (simp <;> omega)) ?_; intro A7 n7 c7 w7 ho7 hB7 _ hz7; have u7 : n7 = n2 := (by have := ho7.len; have := hbB.len; simp at *; omega); subst u7; have g7 := (G6.below hB7).cell))
      have a7 := ho7.ge
      have k7 := ho7.bs
      have G8 : Blk (w7.setCell ⟨gp, 7, none⟩ (.slice A7 n7 c7)) gp #[.int .u8 (bt l 1), .int .u16 (get16 l 4), .bool k, .int .u8 (bt l 8), .int .u8 (bt l 9), .int .u32 (get32 l 12), .int .u32 (get32 l 16), .slice A7 n7 c7, .slice none 0 0] 26 := by
        have := (G6.below hB7).set_ 7 (.slice A7 n7 c7)
        simp only [List.setIfInBounds_toArray, List.set_cons_zero, List.set_cons_succ] at this
        exact this
      have R8 := (R6.below hB7).far ⟨gp, 7, none⟩ (by simp; omega) (.slice A7 n7 c7)
      have T8 := (below_then T6 hB7).setCell (p := ⟨gp, 7, none⟩) (by simp; omega) (.slice A7 n7 c7)
      have k8 := k7.away ⟨gp, 7, none⟩ (fun a e => by have := a7 a e; simp; omega) (.slice A7 n7 c7)
      have a8 : ∀ a, A7 = some a → gp < a.block := fun a e => by have := a7 a e; omega
      generalize w7.setCell ⟨gp, 7, none⟩ (.slice A7 n7 c7) = w8 at *
      clear g7 fc6 ho7 hB7 k7 a7 G6 R6 T6 gl rl hz7
      refine region_txt 6 (by kernel_rfl) (by kernel_rfl) ?_; (iterate 6 (first | (apply ObsK.skip (by rfl)) | (apply ObsK.v (by rfl); (intro wo hT; (repeat (first | (intro _ _ k; try have hcv := cv k))); (have gc := (G8.below hT).cell); refine Goes.mk ?_; go_simp; first | exact goes_v | exact goes_b (by assumption) | (refine goes_enter ?_; first | fail))) | (apply ObsK.b (by rfl); (intro wo hT; (repeat (first | (intro _ _ k; try have hcv := cv k))); (have gc := (G8.below hT).cell); refine Goes.mk ?_; go_simp; first | exact goes_v | exact goes_b (by assumption) | (refine goes_enter ?_; first | fail))))); refine ObsK.nil ?_; intro wz hBz; simp only [finOn, List.drop_succ_cons, List.drop_zero, List.drop_nil]
      go_simp
      have R9 := R8.below hBz
      have G9 := G8.below hBz
      have T9 := below_then T8 hBz
      have k9 := k8.below hBz
      have gl := G9.lt
      have rl := R9.lt
      have fc9 := G9.cell.2
      clear R8 G8 T8 hBz k8
      go_wp2_with (first
        | (at_builtin; refine wpList_append_bs (w0 := wz) _ rfl _ _ _ rfl wz.heap.size 5 Tryz.underlying24 info_u8 none 0 0 [] rfl (own_nil _ _ _) A3 n3 c3 _ rfl (hbC.below T9) (Below.refl _ _) (by omega) (by first | exact Nat.le_refl _ | exact Below.size (Below.refl _ _) | omega | (simp <;> omega)) ?_; intro A10 n10 c10 w10 ho10 hB10 _ hz10; have u10 : n10 = n3 := (by have := ho10.len; have := hbC.len; simp at *; omega); subst u10; have g10 := (G9.below hB10).cell; have r10 := (R9.below hB10).cell; (obtain ⟨w11, hw11, S11⟩ := store1 (G9.below hB10) 8 (.slice A10 n10 c10)); have g11 := S11.blk.cell; have R11 := S11.other (by omega) (R9.below hB10); have r11 := R11.cell; (obtain ⟨w12, hw12, S12⟩ := store9 R11 (.int .u8 (bt l 1)) (.int .u16 (get16 l 4)) (.bool k) (.int .u8 (bt l 8)) (.int .u8 (bt l 9)) (.int .u32 (get32 l 12)) (.int .u32 (get32 l 16)) (.slice A7 n7 c7) (.slice A10 n10 c10))))
      have a10 := ho10.ge
      have k10 := ho10.bs
      have T12 := S12.bel (S11.bel (below_then T9 hB10) (by omega)) (Nat.le_refl _)
      have K10 := S12.bs (S11.bs k10 (fun a e => by have := a10 a e; omega)) (fun a e => by have := a10 a e; omega)
      have K9 := S12.bs (S11.bs (k9.below hB10) (fun a e => by have := a8 a e; omega)) (fun a e => by have := a8 a e; omega)
      have pf := S12.blk.cell
      have hR : rdPk false l = rdP l := by unfold rdPk; rw [if_pos HE0.out]
      have e1 : (rdP l).keep = k := HK.out
      have e2 : (rdP l).opt = List.drop 20 (List.take h.toNat l) := by rw [← HH.out]; rfl
      have e3 : (rdP l).dat = List.drop h.toNat (List.take (g).toNat l) := by rw [← HH.out, ← HM.out]; rfl
      refine bodyPost_ret (v := .tuple #[.agg #[.int .u8 (bt l 1), .int .u16 (get16 l 4), .bool k, .int .u8 (bt l 8), .int .u8 (bt l 9), .int .u32 (get32 l 12), .int .u32 (get32 l 16), .slice A7 n7 c7, .slice A10 n10 c10], .int .i64 0]) (by simp [results, Tryz.results41, go_sem, pf]) rfl
        ⟨A7, n7, c7, A10, n10, c10, by rw [hR, HE0.out, e1]; rfl, by rw [hR, e2]; exact K9, by rw [hR, e3]; exact K10, fun a e => by have := a8 a e; omega, fun a e => by have := a10 a e; omega, T12⟩
theorem rread_any (A : Option Addr) (n c : Nat) (l : List UInt8) (q : Bool) (w : World) (hb : Bs w A n c l) :
    Calls Tryz.prog 41 #[.slice A n c, .bool q] w (RdPost w q l) := by
  by_cases h : lenE q l = 0
  · exact rread_ok A n c l q w hb h
  · exact rread_len A n c l q w hb h
set_option maxHeartbeats 4000000
theorem rParse_any (A : Option Addr) (n c : Nat) (l : List UInt8) (w : World) (hb : Bs w A n c l) :
    Calls Tryz.prog 13 #[.slice A n c] w (RdPost w false l) := by
  go_enter Tryz.func13, Tryz.ntmps13
  go_wp2_with fail
  refine (rread_any A n c l false _ (hb.alloc _)).mono ?_
  intro e w1 hP
  obtain ⟨A1, n1, c1, A2, n2, c2, rfl, k1, k2, a1, a2, T1⟩ := hP.out
  have P1 := (blk_new w #[.int .u8 0, .int .u16 0, .bool false, .int .u8 0, .int .u8 0, .int .u32 0, .int .u32 0, .slice none 0 0, .slice none 0 0] 26 _ rfl).below T1
  have T := below_then ((Below.refl _ w).alloc (Nat.le_refl _) _) T1
  clear hP T1
  have pc := P1.cell
  generalize hp : rdPk false l = p at *
  generalize he : rdE false l = e at *
  have HP := Lib.hid hp
  have HE := Lib.hid he
  clear hp he
  go_wp2_with fail
  obtain ⟨w2, hw2, S⟩ := store9 P1 (.int .u8 p.tos) (.int .u16 p.id) (.bool p.keep) (.int .u8 p.ttl) (.int .u8 p.proto) (.int .u32 p.src) (.int .u32 p.dst) (.slice A1 n1 c1) (.slice A2 n2 c2)
  rw [hw2]
  have K1 := S.bs k1 (fun x e => by have := a1 x e; simp at this; omega)
  have K2 := S.bs k2 (fun x e => by have := a2 x e; simp at this; omega)
  have TF := S.bel T (Nat.le_refl _)
  have pf := S.blk.cell
  clear hw2 S P1 pc k1 k2 T
  refine bodyPost_ret (v := .tuple #[(.agg #[.int .u8 (p).tos, .int .u16 (p).id, .bool (p).keep, .int .u8 (p).ttl, .int .u8 (p).proto, .int .u32 (p).src, .int .u32 (p).dst, .slice A1 n1 c1, .slice A2 n2 c2]), .int .i64 e]) (by simp [results, Tryz.results13, go_sem, pf]) rfl ⟨A1, n1, c1, A2, n2, c2, by rw [HP.out, HE.out], by rw [HP.out]; exact K1, by rw [HP.out]; exact K2, fun x e => by have := a1 x e; simp at this; omega, fun x e => by have := a2 x e; simp at this; omega, TF⟩
theorem rParse_v {l : List UInt8} {P : Pkt} {E : Int} (hP : rdPk false l = P) (hE : rdE false l = E) (A : Option Addr) (n c : Nat) (w : World) (hb : Bs w A n c l) :
    Calls Tryz.prog 13 #[.slice A n c] w fun e w' => ∃ A1 n1 c1 A2 n2 c2, e = .returned (.tuple #[(.agg #[.int .u8 (P).tos, .int .u16 (P).id, .bool (P).keep, .int .u8 (P).ttl, .int .u8 (P).proto, .int .u32 (P).src, .int .u32 (P).dst, .slice A1 n1 c1, .slice A2 n2 c2]), .int .i64 E]) ∧ Bs w' A1 n1 c1 P.opt ∧ Bs w' A2 n2 c2 P.dat ∧ Below w.heap.size w w' := by
  refine (rParse_any A n c l w hb).mono ?_
  intro e w' hQ
  obtain ⟨A1, n1, c1, A2, n2, c2, rfl, k1, k2, a1, a2, T⟩ := hQ.out
  rw [hP] at k1 k2 ⊢
  rw [hE]
  exact ⟨A1, n1, c1, A2, n2, c2, rfl, k1, k2, T⟩
theorem ipQuote_v {l : List UInt8} {P : Pkt} {E : Int} (hP : rdPk true l = P) (hE : rdE true l = E) (A : Option Addr) (n c : Nat) (w : World) (hb : Bs w A n c l) :
    Calls Tryz.prog 18 #[.slice A n c] w fun e w' => ∃ A1 n1 c1 A2 n2 c2, e = .returned (.tuple #[(.agg #[.int .u8 (P).tos, .int .u16 (P).id, .bool (P).keep, .int .u8 (P).ttl, .int .u8 (P).proto, .int .u32 (P).src, .int .u32 (P).dst, .slice A1 n1 c1, .slice A2 n2 c2]), .int .i64 E]) ∧ Bs w' A1 n1 c1 P.opt ∧ Bs w' A2 n2 c2 P.dat ∧ Below w.heap.size w w' := by
  refine (ipQuote_any A n c l w hb).mono ?_
  intro e w' hQ
  obtain ⟨A1, n1, c1, A2, n2, c2, rfl, k1, k2, a1, a2, T⟩ := hQ.out
  rw [hP] at k1 k2 ⊢
  rw [hE]
  exact ⟨A1, n1, c1, A2, n2, c2, rfl, k1, k2, T⟩
def hasB (l : List UInt8) (n : Nat) (v : Int) : Bool := decide (∃ j, j < n ∧ bt l j = v)
theorem hasB_iff (l : List UInt8) (n : Nat) (v : Int) : hasB l n v = true ↔ ∃ j, j < n ∧ bt l j = v := by simp [hasB]
theorem index_any (A : Option Addr) (n c : Nat) (l : List UInt8) (v : Int) (w : World) (hb : Bs w A n c l) :
    Calls Tryz.prog 101 #[.slice A n c, .int .u8 v] w fun e w' => (∃ r : Int, e = .returned (.int .i64 r) ∧ decide (0 ≤ r) = hasB l n v) ∧ w = w' := by
  have hmax := hb.max
  go_enter Tryz.func101, Tryz.ntmps101
  go_wp2_with fail
  go_loop [8] (fun i => ∃ k : Nat, k ≤ n ∧ i = .int .i64 k ∧ Hid (∀ j, j < k → bt l j ≠ v)) (fun i => n - (intOf i).toNat)
  case atStart => exact ⟨0, by omega, rfl, fun j hj => by omega⟩
  case round =>
    obtain ⟨k, hk, rfl, hno⟩ := hrel
    by_cases hlt : k < n
    · obtain ⟨g, o, rfl, hc⟩ := hb.rd (by omega)
      have ck := hc k hlt
      have hki : (k : Int) < n := by omega
      clear hc
      by_cases hv : bt l k = v
      · have hv' : (v == bt l k) = true := by simp [hv]
        have HV := Lib.hid hv
        clear hv
        go_wp2_with fail
        go_ret
        exact ⟨⟨_, rfl, by rw [decide_eq_true (show (0 : Int) ≤ k by omega)]; exact ((hasB_iff l n v).2 ⟨k, hlt, HV.out⟩).symm⟩, rfl⟩
      · have hv' : (v == bt l k) = false := by simp; exact fun e => hv e.symm
        have HV := Lib.hid hv
        clear hv
        go_wp2_with fail
        exact ⟨⟨k + 1, by omega, by go_num, fun j hj => by
          by_cases e : j = k
          · subst e; exact HV.out
          · exact hno.out j (by omega)⟩, by simp [intOf]; omega⟩
    · obtain rfl : k = n := by omega
      go_wp2_with fail
      go_ret
      refine ⟨⟨_, rfl, ?_⟩, rfl⟩
      have h1 : hasB l k v = false := by
        cases h : hasB l k v with
        | false => rfl
        | true =>
          obtain ⟨j, hj, e⟩ := (hasB_iff l k v).1 h
          exact absurd e (hno.out j hj)
      rw [h1]
      rfl
theorem contains_any (A : Option Addr) (n c : Nat) (l : List UInt8) (v : Int) (w : World) (hb : Bs w A n c l) :
    Calls Tryz.prog 79 #[.slice A n c, .int .u8 v] w fun e w' => e = .returned (.bool (hasB l n v)) ∧ w = w' := by
  go_enter Tryz.func79, Tryz.ntmps79
  go_wp2_with (go_at_call 101; ((with_reducible refine (index_any A n c l v _ hb).mono ?_); rintro e w1 ⟨⟨r, rfl, hr⟩, rfl⟩))
  go_ret
  exact ⟨rfl, rfl⟩
theorem iserr_any (m : Msg) (A1 : Option Addr) (n1 c1 : Nat) (w : World) :
    Calls Tryz.prog 48 #[(.agg #[.int .u8 (m).ty, .int .u8 (m).code, .int .u32 (m).rest, .slice A1 n1 c1])] w fun e w' => e = .returned (.bool (isErrM m)) ∧ Below w.heap.size w w' := by
  have hl : ∀ W : World, Bs (W.alloc (.cells #[.int .u8 3, .int .u8 11, .int .u8 12] 5)) (some ⟨W.heap.size, 0, none⟩) 3 3 [3, 11, 12] := fun W => bs_lit [3, 11, 12] 3 rfl (by omega)
  have he : hasB [3, 11, 12] 3 m.ty = isErrM m := by
    rw [Bool.eq_iff_iff, hasB_iff]
    unfold isErrM
    simp only [Bool.or_eq_true, beq_iff_eq]
    constructor
    · rintro ⟨j, hj, e⟩
      have : j = 0 ∨ j = 1 ∨ j = 2 := by omega
      rcases this with rfl | rfl | rfl
      · exact .inl (.inl e.symm)
      · exact .inl (.inr e.symm)
      · exact .inr e.symm
    · rintro ((e | e) | e)
      · exact ⟨0, by omega, e.symm⟩
      · exact ⟨1, by omega, e.symm⟩
      · exact ⟨2, by omega, e.symm⟩
  have HE := Lib.hid he
  clear he
  obtain ⟨w1, hw1⟩ : ∃ w1, w.alloc (.cells #[.int .u8 (m).ty, .int .u8 (m).code, .int .u32 (m).rest, .slice A1 n1 c1] 42) = w1 := ⟨_, rfl⟩
  have P1 : Blk w1 w.heap.size #[.int .u8 (m).ty, .int .u8 (m).code, .int .u32 (m).rest, .slice A1 n1 c1] 42 := by rw [← hw1]; exact blk_new w _ _ _ rfl
  have R1 : Below w.heap.size w w1 := by first | exact bw1 hw1 | exact bw2 hw1 | exact bw3 hw1 | exact bw4 hw1
  have pl := P1.lt
  have pc := P1.cell
  go_enter Tryz.func48, Tryz.ntmps48
  go_wp2_with (go_at_call 79; ((with_reducible refine (contains_any _ 3 3 [3, 11, 12] m.ty _ (hl _)).mono ?_); rintro e w2 ⟨rfl, rfl⟩))
  go_ret
  exact ⟨by rw [HE.out]; rfl, below_alloc R1 (Nat.le_refl _) _⟩
end Go.Proofs.YtjhpmeagopdaiaaGreat

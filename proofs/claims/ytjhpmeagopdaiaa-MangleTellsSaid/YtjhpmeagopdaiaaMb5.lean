/- Parts of the proofs of this seat, laid together. -/
import Derived.BigRegion
import Derived.Test.YtjhpmeagopdaiaaRows
import Derived.WalkKit
import Derived.ProofKit
import Derived.OpenShut
import Derived.ChangeOld
import Derived.Below
import Derived.SizedLaws
import Derived.JoinedCond
import Derived.Deep.Fields
import Derived.Test.YtjhpmeagopdaiaaMb4
namespace Go.Proofs.Ytjhpmeagopdaiaa
open Go.RowKit
set_option linter.unusedVariables false
set_option linter.unusedSimpArgs false
set_option linter.unusedSimpArgs false
set_option maxHeartbeats 8000000
set_option maxRecDepth 100000

structure InPost (w : World) (Q : Pkt) (T : Tup) (E : Int) (e : Ending) (w' : World) : Prop where
  out : ∃ C1 e1 f1 C2 e2 f2, e = .returned (.tuple #[(.agg #[.int .u8 (Q).tos, .int .u16 (Q).id, .bool (Q).keep, .int .u8 (Q).ttl, .int .u8 (Q).proto, .int .u32 (Q).src, .int .u32 (Q).dst, .slice C1 e1 f1, .slice C2 e2 f2]), (.agg #[.int .u8 (T).proto, .int .u32 (T).src, .int .u32 (T).dst, .int .u16 (T).sp, .int .u16 (T).dp]), .int .i64 E]) ∧ Bs w' C1 e1 f1 Q.opt ∧ Bs w' C2 e2 f2 Q.dat ∧ Below w.heap.size w w'
theorem rQuote_v {l : List UInt8} {P : Pkt} {E : Int} (hP : rdPk true l = P) (hE : rdE true l = E) (A : Option Addr) (n c : Nat) (w : World) (hb : Bs w A n c l) :
    Calls Try.prog 70 #[.slice A n c] w fun e w' => ∃ A1 n1 c1 A2 n2 c2, e = .returned (.tuple #[(.agg #[.int .u8 (P).tos, .int .u16 (P).id, .bool (P).keep, .int .u8 (P).ttl, .int .u8 (P).proto, .int .u32 (P).src, .int .u32 (P).dst, .slice A1 n1 c1, .slice A2 n2 c2]), .int .i64 E]) ∧ Bs w' A1 n1 c1 P.opt ∧ Bs w' A2 n2 c2 P.dat ∧ (∀ a, A1 = some a → w.heap.size ≤ a.block) ∧ (∀ a, A2 = some a → w.heap.size ≤ a.block) ∧ Below w.heap.size w w' := by
  refine (rQuote_any A n c l w hb).mono ?_
  intro e w' hQ
  obtain ⟨A1, n1, c1, A2, n2, c2, rfl, k1, k2, a1, a2, T⟩ := hQ.out
  rw [hP] at k1 k2 ⊢
  rw [hE]
  exact ⟨A1, n1, c1, A2, n2, c2, rfl, k1, k2, a1, a2, T⟩
theorem inn_0 (p : Pkt) (A1 : Option Addr) (n1 c1 : Nat) (A2 : Option Addr) (n2 c2 : Nat) (w : World) (k2 : Bs w A2 n2 c2 p.dat) (h1 : (p.proto != 1) = true) :
    Calls Try.prog 39 #[(.agg #[.int .u8 (p).tos, .int .u16 (p).id, .bool (p).keep, .int .u8 (p).ttl, .int .u8 (p).proto, .int .u32 (p).src, .int .u32 (p).dst, .slice A1 n1 c1, .slice A2 n2 c2])] w (InPost w zP zT 12) := by
  obtain ⟨k, hk⟩ : ∃ k : Nat, w.heap.size = k := ⟨_, rfl⟩
  obtain ⟨w1, hw1⟩ : ∃ W, (((w.alloc (.cells #[.int .u8 (p).tos, .int .u16 (p).id, .bool (p).keep, .int .u8 (p).ttl, .int .u8 (p).proto, .int .u32 (p).src, .int .u32 (p).dst, .slice A1 n1 c1, .slice A2 n2 c2] 26)).alloc (.cells #[.int .u8 0, .int .u16 0, .bool false, .int .u8 0, .int .u8 0, .int .u32 0, .int .u32 0, .slice none 0 0, .slice none 0 0] 26)).alloc (.cells #[.int .u8 0, .int .u32 0, .int .u32 0, .int .u16 0, .int .u16 0] 28)) = W := ⟨_, rfl⟩
  have P1 : Blk w1 k #[.int .u8 (p).tos, .int .u16 (p).id, .bool (p).keep, .int .u8 (p).ttl, .int .u8 (p).proto, .int .u32 (p).src, .int .u32 (p).dst, .slice A1 n1 c1, .slice A2 n2 c2] 26 := by rw [← hw1]; exact (((blk_new _ _ _ k (by simp [hk])).alloc _).alloc _)
  have Z1 : Blk w1 (k + 1) #[.int .u8 0, .int .u16 0, .bool false, .int .u8 0, .int .u8 0, .int .u32 0, .int .u32 0, .slice none 0 0, .slice none 0 0] 26 := by rw [← hw1]; exact ((blk_new _ _ _ (k + 1) (by simp [hk])).alloc _)
  have Y1 : Blk w1 (k + 1 + 1) #[.int .u8 0, .int .u32 0, .int .u32 0, .int .u16 0, .int .u16 0] 28 := by rw [← hw1]; exact (blk_new _ _ _ (k + 1 + 1) (by simp [hk]))
  have R1 : Below w.heap.size w w1 := by rw [← hw1]; (repeat (first | with_reducible exact Below.refl _ _ | with_reducible refine below_drew ?_ | with_reducible refine below_drewN ?_ _ | with_reducible refine below_alloc ?_ (Nat.le_refl _) _ | with_reducible refine Below.setCell ?_ (by first | exact Nat.le_refl _ | (simp only []; omega)) _ | with_reducible assumption))
  have Pc1 := P1.cell
  have Zc1 := Z1.cell
  have Yc1 := Y1.cell
  have Pl1 := P1.lt
  have Zl1 := Z1.lt
  have Yl1 := Y1.lt
  have x1 := (k2).below R1
  go_enter Try.func39, Try.ntmps39
  go_wp2_with fail
  obtain ⟨wf, hwf, Sf⟩ := store9 Z1 (.int .u8 0) (.int .u16 0) (.bool false) (.int .u8 0) (.int .u8 0) (.int .u32 0) (.int .u32 0) (.slice none 0 0) (.slice none 0 0)
  have Yf := Sf.other (by omega) Y1
  obtain ⟨wg, hwg, Sg⟩ := store5 Yf (.int .u8 0) (.int .u32 0) (.int .u32 0) (.int .u16 0) (.int .u16 0)
  rw [hwf, hwg]
  have Zg := Sg.other (by omega) Sf.blk
  have pf := Zg.cell
  have pg := Sg.blk.cell
  exact bodyPost_ret (v := .tuple #[.agg #[.int .u8 0, .int .u16 0, .bool false, .int .u8 0, .int .u8 0, .int .u32 0, .int .u32 0, .slice none 0 0, .slice none 0 0], .agg #[.int .u8 0, .int .u32 0, .int .u32 0, .int .u16 0, .int .u16 0], .int .i64 12]) (by simp [results, Try.results39, go_sem, pf, pg]) rfl ⟨none, 0, 0, none, 0, 0, rfl, Bs.none_ _, Bs.none_ _, Sg.bel (Sf.bel R1 (by omega)) (by omega)⟩

theorem inn_1 (p : Pkt) (A1 : Option Addr) (n1 c1 : Nat) (A2 : Option Addr) (n2 c2 : Nat) (w : World) (k2 : Bs w A2 n2 c2 p.dat) (h1 : (p.proto != 1) = false) (s : Msg) (E : Int) (ht : ∀ W, Bs W A2 n2 c2 p.dat → Calls Try.prog 16 #[(.agg #[.int .u8 (p).tos, .int .u16 (p).id, .bool (p).keep, .int .u8 (p).ttl, .int .u8 (p).proto, .int .u32 (p).src, .int .u32 (p).dst, .slice A1 n1 c1, .slice A2 n2 c2])] W (MsPost W s E)) (h0 : E ≠ 0) :
    Calls Try.prog 39 #[(.agg #[.int .u8 (p).tos, .int .u16 (p).id, .bool (p).keep, .int .u8 (p).ttl, .int .u8 (p).proto, .int .u32 (p).src, .int .u32 (p).dst, .slice A1 n1 c1, .slice A2 n2 c2])] w (InPost w zP zT E) := by
  have h0b : (E != 0) = true := by simpa using h0
  clear h0
  obtain ⟨k, hk⟩ : ∃ k : Nat, w.heap.size = k := ⟨_, rfl⟩
  obtain ⟨w1, hw1⟩ : ∃ W, (((w.alloc (.cells #[.int .u8 (p).tos, .int .u16 (p).id, .bool (p).keep, .int .u8 (p).ttl, .int .u8 (p).proto, .int .u32 (p).src, .int .u32 (p).dst, .slice A1 n1 c1, .slice A2 n2 c2] 26)).alloc (.cells #[.int .u8 0, .int .u16 0, .bool false, .int .u8 0, .int .u8 0, .int .u32 0, .int .u32 0, .slice none 0 0, .slice none 0 0] 26)).alloc (.cells #[.int .u8 0, .int .u32 0, .int .u32 0, .int .u16 0, .int .u16 0] 28)) = W := ⟨_, rfl⟩
  have P1 : Blk w1 k #[.int .u8 (p).tos, .int .u16 (p).id, .bool (p).keep, .int .u8 (p).ttl, .int .u8 (p).proto, .int .u32 (p).src, .int .u32 (p).dst, .slice A1 n1 c1, .slice A2 n2 c2] 26 := by rw [← hw1]; exact (((blk_new _ _ _ k (by simp [hk])).alloc _).alloc _)
  have Z1 : Blk w1 (k + 1) #[.int .u8 0, .int .u16 0, .bool false, .int .u8 0, .int .u8 0, .int .u32 0, .int .u32 0, .slice none 0 0, .slice none 0 0] 26 := by rw [← hw1]; exact ((blk_new _ _ _ (k + 1) (by simp [hk])).alloc _)
  have Y1 : Blk w1 (k + 1 + 1) #[.int .u8 0, .int .u32 0, .int .u32 0, .int .u16 0, .int .u16 0] 28 := by rw [← hw1]; exact (blk_new _ _ _ (k + 1 + 1) (by simp [hk]))
  have R1 : Below w.heap.size w w1 := by rw [← hw1]; (repeat (first | with_reducible exact Below.refl _ _ | with_reducible refine below_drew ?_ | with_reducible refine below_drewN ?_ _ | with_reducible refine below_alloc ?_ (Nat.le_refl _) _ | with_reducible refine Below.setCell ?_ (by first | exact Nat.le_refl _ | (simp only []; omega)) _ | with_reducible assumption))
  have Pc1 := P1.cell
  have Zc1 := Z1.cell
  have Yc1 := Y1.cell
  have Pl1 := P1.lt
  have Zl1 := Z1.lt
  have Yl1 := Y1.lt
  have x1 := (k2).below R1
  go_enter Try.func39, Try.ntmps39
  go_wp2_with (go_at_call 16; ((with_reducible refine (ht w1 x1).mono ?_); rintro e u2 ⟨⟨DA, dn, dc, rfl, ho, hB2⟩⟩); (obtain ⟨w2, hw2⟩ : ∃ W, u2.alloc (.cells #[.int .u8 (s).ty, .int .u8 (s).code, .int .u32 (s).rest, .slice DA dn dc] 42) = W := ⟨_, rfl⟩); have V2 : Below u2.heap.size u2 w2 := (by rw [← hw2]; (repeat (first | with_reducible exact Below.refl _ _ | with_reducible refine below_drew ?_ | with_reducible refine below_drewN ?_ _ | with_reducible refine below_alloc ?_ (Nat.le_refl _) _ | with_reducible refine Below.setCell ?_ (by first | exact Nat.le_refl _ | (simp only []; omega)) _ | with_reducible assumption))); (obtain ⟨kS2, hkS2⟩ : ∃ k : Nat, u2.heap.size = k := ⟨_, rfl⟩); have S2 : Blk w2 kS2 #[.int .u8 (s).ty, .int .u8 (s).code, .int .u32 (s).rest, .slice DA dn dc] 42 := (by rw [← hw2]; exact blk_new u2 _ _ _ hkS2); have Sc2 := S2.cell; have T2 := below_then hB2 V2; have y2 := (ho.bs).below V2; have P2 := P1.below T2; have Pc2 := P2.cell; clear Pc1; have Z2 := Z1.below T2; have Zc2 := Z2.cell; clear Zc1; have Y2 := Y1.below T2; have Yc2 := Y2.cell; clear Yc1; have x2 := x1.below T2; have R2 := below_then R1 T2)
  obtain ⟨wf, hwf, Sf⟩ := store9 Z2 (.int .u8 0) (.int .u16 0) (.bool false) (.int .u8 0) (.int .u8 0) (.int .u32 0) (.int .u32 0) (.slice none 0 0) (.slice none 0 0)
  have Yf := Sf.other (by omega) Y2
  obtain ⟨wg, hwg, Sg⟩ := store5 Yf (.int .u8 0) (.int .u32 0) (.int .u32 0) (.int .u16 0) (.int .u16 0)
  rw [hwf, hwg]
  have Zg := Sg.other (by omega) Sf.blk
  have pf := Zg.cell
  have pg := Sg.blk.cell
  exact bodyPost_ret (v := .tuple #[.agg #[.int .u8 0, .int .u16 0, .bool false, .int .u8 0, .int .u8 0, .int .u32 0, .int .u32 0, .slice none 0 0, .slice none 0 0], .agg #[.int .u8 0, .int .u32 0, .int .u32 0, .int .u16 0, .int .u16 0], .int .i64 E]) (by simp [results, Try.results39, go_sem, pf, pg]) rfl ⟨none, 0, 0, none, 0, 0, rfl, Bs.none_ _, Bs.none_ _, Sg.bel (Sf.bel R2 (by omega)) (by omega)⟩

theorem inn_2 (p : Pkt) (A1 : Option Addr) (n1 c1 : Nat) (A2 : Option Addr) (n2 c2 : Nat) (w : World) (k2 : Bs w A2 n2 c2 p.dat) (h1 : (p.proto != 1) = false) (s : Msg)  (ht : ∀ W, Bs W A2 n2 c2 p.dat → Calls Try.prog 16 #[(.agg #[.int .u8 (p).tos, .int .u16 (p).id, .bool (p).keep, .int .u8 (p).ttl, .int .u8 (p).proto, .int .u32 (p).src, .int .u32 (p).dst, .slice A1 n1 c1, .slice A2 n2 c2])] W (MsPost W s 0))  (he : ∀ B b1 b2 W, Calls Try.prog 69 #[(.agg #[.int .u8 (s).ty, .int .u8 (s).code, .int .u32 (s).rest, .slice B b1 b2])] W fun e w' => e = .returned (.bool false) ∧ Below W.heap.size W w') :
    Calls Try.prog 39 #[(.agg #[.int .u8 (p).tos, .int .u16 (p).id, .bool (p).keep, .int .u8 (p).ttl, .int .u8 (p).proto, .int .u32 (p).src, .int .u32 (p).dst, .slice A1 n1 c1, .slice A2 n2 c2])] w (InPost w zP zT 12) := by
  obtain ⟨k, hk⟩ : ∃ k : Nat, w.heap.size = k := ⟨_, rfl⟩
  obtain ⟨w1, hw1⟩ : ∃ W, (((w.alloc (.cells #[.int .u8 (p).tos, .int .u16 (p).id, .bool (p).keep, .int .u8 (p).ttl, .int .u8 (p).proto, .int .u32 (p).src, .int .u32 (p).dst, .slice A1 n1 c1, .slice A2 n2 c2] 26)).alloc (.cells #[.int .u8 0, .int .u16 0, .bool false, .int .u8 0, .int .u8 0, .int .u32 0, .int .u32 0, .slice none 0 0, .slice none 0 0] 26)).alloc (.cells #[.int .u8 0, .int .u32 0, .int .u32 0, .int .u16 0, .int .u16 0] 28)) = W := ⟨_, rfl⟩
  have P1 : Blk w1 k #[.int .u8 (p).tos, .int .u16 (p).id, .bool (p).keep, .int .u8 (p).ttl, .int .u8 (p).proto, .int .u32 (p).src, .int .u32 (p).dst, .slice A1 n1 c1, .slice A2 n2 c2] 26 := by rw [← hw1]; exact (((blk_new _ _ _ k (by simp [hk])).alloc _).alloc _)
  have Z1 : Blk w1 (k + 1) #[.int .u8 0, .int .u16 0, .bool false, .int .u8 0, .int .u8 0, .int .u32 0, .int .u32 0, .slice none 0 0, .slice none 0 0] 26 := by rw [← hw1]; exact ((blk_new _ _ _ (k + 1) (by simp [hk])).alloc _)
  have Y1 : Blk w1 (k + 1 + 1) #[.int .u8 0, .int .u32 0, .int .u32 0, .int .u16 0, .int .u16 0] 28 := by rw [← hw1]; exact (blk_new _ _ _ (k + 1 + 1) (by simp [hk]))
  have R1 : Below w.heap.size w w1 := by rw [← hw1]; (repeat (first | with_reducible exact Below.refl _ _ | with_reducible refine below_drew ?_ | with_reducible refine below_drewN ?_ _ | with_reducible refine below_alloc ?_ (Nat.le_refl _) _ | with_reducible refine Below.setCell ?_ (by first | exact Nat.le_refl _ | (simp only []; omega)) _ | with_reducible assumption))
  have Pc1 := P1.cell
  have Zc1 := Z1.cell
  have Yc1 := Y1.cell
  have Pl1 := P1.lt
  have Zl1 := Z1.lt
  have Yl1 := Y1.lt
  have x1 := (k2).below R1
  go_enter Try.func39, Try.ntmps39
  go_wp2_with (first
    | (go_at_call 16; ((with_reducible refine (ht w1 x1).mono ?_); rintro e u2 ⟨⟨DA, dn, dc, rfl, ho, hB2⟩⟩); (obtain ⟨w2, hw2⟩ : ∃ W, u2.alloc (.cells #[.int .u8 (s).ty, .int .u8 (s).code, .int .u32 (s).rest, .slice DA dn dc] 42) = W := ⟨_, rfl⟩); have V2 : Below u2.heap.size u2 w2 := (by rw [← hw2]; (repeat (first | with_reducible exact Below.refl _ _ | with_reducible refine below_drew ?_ | with_reducible refine below_drewN ?_ _ | with_reducible refine below_alloc ?_ (Nat.le_refl _) _ | with_reducible refine Below.setCell ?_ (by first | exact Nat.le_refl _ | (simp only []; omega)) _ | with_reducible assumption))); (obtain ⟨kS2, hkS2⟩ : ∃ k : Nat, u2.heap.size = k := ⟨_, rfl⟩); have S2 : Blk w2 kS2 #[.int .u8 (s).ty, .int .u8 (s).code, .int .u32 (s).rest, .slice DA dn dc] 42 := (by rw [← hw2]; exact blk_new u2 _ _ _ hkS2); have Sc2 := S2.cell; have T2 := below_then hB2 V2; have y2 := (ho.bs).below V2; have P2 := P1.below T2; have Pc2 := P2.cell; clear Pc1; have Z2 := Z1.below T2; have Zc2 := Z2.cell; clear Zc1; have Y2 := Y1.below T2; have Yc2 := Y2.cell; clear Yc1; have x2 := x1.below T2; have R2 := below_then R1 T2)
    | (go_at_call 69; ((with_reducible refine (he DA dn dc w2).mono ?_); rintro e w3 ⟨rfl, hB3⟩); have P3 := P2.below hB3; have Pc3 := P3.cell; clear Pc2; have Z3 := Z2.below hB3; have Zc3 := Z3.cell; clear Zc2; have Y3 := Y2.below hB3; have Yc3 := Y3.cell; clear Yc2; have S3 := S2.below hB3; have Sc3 := S3.cell; clear Sc2; have x3 := x2.below hB3; have y3 := y2.below hB3; have R3 := below_then R2 hB3))
  obtain ⟨wf, hwf, Sf⟩ := store9 Z3 (.int .u8 0) (.int .u16 0) (.bool false) (.int .u8 0) (.int .u8 0) (.int .u32 0) (.int .u32 0) (.slice none 0 0) (.slice none 0 0)
  have Yf := Sf.other (by omega) Y3
  obtain ⟨wg, hwg, Sg⟩ := store5 Yf (.int .u8 0) (.int .u32 0) (.int .u32 0) (.int .u16 0) (.int .u16 0)
  rw [hwf, hwg]
  have Zg := Sg.other (by omega) Sf.blk
  have pf := Zg.cell
  have pg := Sg.blk.cell
  exact bodyPost_ret (v := .tuple #[.agg #[.int .u8 0, .int .u16 0, .bool false, .int .u8 0, .int .u8 0, .int .u32 0, .int .u32 0, .slice none 0 0, .slice none 0 0], .agg #[.int .u8 0, .int .u32 0, .int .u32 0, .int .u16 0, .int .u16 0], .int .i64 12]) (by simp [results, Try.results39, go_sem, pf, pg]) rfl ⟨none, 0, 0, none, 0, 0, rfl, Bs.none_ _, Bs.none_ _, Sg.bel (Sf.bel R3 (by omega)) (by omega)⟩

theorem inn_3 (p : Pkt) (A1 : Option Addr) (n1 c1 : Nat) (A2 : Option Addr) (n2 c2 : Nat) (w : World) (k2 : Bs w A2 n2 c2 p.dat) (h1 : (p.proto != 1) = false) (s : Msg)  (ht : ∀ W, Bs W A2 n2 c2 p.dat → Calls Try.prog 16 #[(.agg #[.int .u8 (p).tos, .int .u16 (p).id, .bool (p).keep, .int .u8 (p).ttl, .int .u8 (p).proto, .int .u32 (p).src, .int .u32 (p).dst, .slice A1 n1 c1, .slice A2 n2 c2])] W (MsPost W s 0))  (he : ∀ B b1 b2 W, Calls Try.prog 69 #[(.agg #[.int .u8 (s).ty, .int .u8 (s).code, .int .u32 (s).rest, .slice B b1 b2])] W fun e w' => e = .returned (.bool true) ∧ Below W.heap.size W w') (q : Pkt) (F : Int) (hq : ∀ B b1 b2 W, Bs W B b1 b2 s.dat → Calls Try.prog 70 #[.slice B b1 b2] W fun e w' => ∃ C1 e1 f1 C2 e2 f2, e = .returned (.tuple #[(.agg #[.int .u8 (q).tos, .int .u16 (q).id, .bool (q).keep, .int .u8 (q).ttl, .int .u8 (q).proto, .int .u32 (q).src, .int .u32 (q).dst, .slice C1 e1 f1, .slice C2 e2 f2]), .int .i64 F]) ∧ Bs w' C1 e1 f1 q.opt ∧ Bs w' C2 e2 f2 q.dat ∧ (∀ a, C1 = some a → W.heap.size ≤ a.block) ∧ (∀ a, C2 = some a → W.heap.size ≤ a.block) ∧ Below W.heap.size W w') (h0 : F ≠ 0) :
    Calls Try.prog 39 #[(.agg #[.int .u8 (p).tos, .int .u16 (p).id, .bool (p).keep, .int .u8 (p).ttl, .int .u8 (p).proto, .int .u32 (p).src, .int .u32 (p).dst, .slice A1 n1 c1, .slice A2 n2 c2])] w (InPost w zP zT F) := by
  have h0b : (F != 0) = true := by simpa using h0
  clear h0
  obtain ⟨k, hk⟩ : ∃ k : Nat, w.heap.size = k := ⟨_, rfl⟩
  obtain ⟨w1, hw1⟩ : ∃ W, (((w.alloc (.cells #[.int .u8 (p).tos, .int .u16 (p).id, .bool (p).keep, .int .u8 (p).ttl, .int .u8 (p).proto, .int .u32 (p).src, .int .u32 (p).dst, .slice A1 n1 c1, .slice A2 n2 c2] 26)).alloc (.cells #[.int .u8 0, .int .u16 0, .bool false, .int .u8 0, .int .u8 0, .int .u32 0, .int .u32 0, .slice none 0 0, .slice none 0 0] 26)).alloc (.cells #[.int .u8 0, .int .u32 0, .int .u32 0, .int .u16 0, .int .u16 0] 28)) = W := ⟨_, rfl⟩
  have P1 : Blk w1 k #[.int .u8 (p).tos, .int .u16 (p).id, .bool (p).keep, .int .u8 (p).ttl, .int .u8 (p).proto, .int .u32 (p).src, .int .u32 (p).dst, .slice A1 n1 c1, .slice A2 n2 c2] 26 := by rw [← hw1]; exact (((blk_new _ _ _ k (by simp [hk])).alloc _).alloc _)
  have Z1 : Blk w1 (k + 1) #[.int .u8 0, .int .u16 0, .bool false, .int .u8 0, .int .u8 0, .int .u32 0, .int .u32 0, .slice none 0 0, .slice none 0 0] 26 := by rw [← hw1]; exact ((blk_new _ _ _ (k + 1) (by simp [hk])).alloc _)
  have Y1 : Blk w1 (k + 1 + 1) #[.int .u8 0, .int .u32 0, .int .u32 0, .int .u16 0, .int .u16 0] 28 := by rw [← hw1]; exact (blk_new _ _ _ (k + 1 + 1) (by simp [hk]))
  have R1 : Below w.heap.size w w1 := by rw [← hw1]; (repeat (first | with_reducible exact Below.refl _ _ | with_reducible refine below_drew ?_ | with_reducible refine below_drewN ?_ _ | with_reducible refine below_alloc ?_ (Nat.le_refl _) _ | with_reducible refine Below.setCell ?_ (by first | exact Nat.le_refl _ | (simp only []; omega)) _ | with_reducible assumption))
  have Pc1 := P1.cell
  have Zc1 := Z1.cell
  have Yc1 := Y1.cell
  have Pl1 := P1.lt
  have Zl1 := Z1.lt
  have Yl1 := Y1.lt
  have x1 := (k2).below R1
  go_enter Try.func39, Try.ntmps39
  go_wp2_with (first
    | (go_at_call 16; ((with_reducible refine (ht w1 x1).mono ?_); rintro e u2 ⟨⟨DA, dn, dc, rfl, ho, hB2⟩⟩); (obtain ⟨w2, hw2⟩ : ∃ W, u2.alloc (.cells #[.int .u8 (s).ty, .int .u8 (s).code, .int .u32 (s).rest, .slice DA dn dc] 42) = W := ⟨_, rfl⟩); have V2 : Below u2.heap.size u2 w2 := (by rw [← hw2]; (repeat (first | with_reducible exact Below.refl _ _ | with_reducible refine below_drew ?_ | with_reducible refine below_drewN ?_ _ | with_reducible refine below_alloc ?_ (Nat.le_refl _) _ | with_reducible refine Below.setCell ?_ (by first | exact Nat.le_refl _ | (simp only []; omega)) _ | with_reducible assumption))); (obtain ⟨kS2, hkS2⟩ : ∃ k : Nat, u2.heap.size = k := ⟨_, rfl⟩); have S2 : Blk w2 kS2 #[.int .u8 (s).ty, .int .u8 (s).code, .int .u32 (s).rest, .slice DA dn dc] 42 := (by rw [← hw2]; exact blk_new u2 _ _ _ hkS2); have Sc2 := S2.cell; have T2 := below_then hB2 V2; have y2 := (ho.bs).below V2; have P2 := P1.below T2; have Pc2 := P2.cell; clear Pc1; have Z2 := Z1.below T2; have Zc2 := Z2.cell; clear Zc1; have Y2 := Y1.below T2; have Yc2 := Y2.cell; clear Yc1; have x2 := x1.below T2; have R2 := below_then R1 T2)
    | (go_at_call 69; ((with_reducible refine (he DA dn dc w2).mono ?_); rintro e w3 ⟨rfl, hB3⟩); have P3 := P2.below hB3; have Pc3 := P3.cell; clear Pc2; have Z3 := Z2.below hB3; have Zc3 := Z3.cell; clear Zc2; have Y3 := Y2.below hB3; have Yc3 := Y3.cell; clear Yc2; have S3 := S2.below hB3; have Sc3 := S3.cell; clear Sc2; have x3 := x2.below hB3; have y3 := y2.below hB3; have R3 := below_then R2 hB3)
    | (go_at_call 70; ((with_reducible refine (hq DA dn dc w3 y3).mono ?_); rintro e u4 ⟨C1, e1, f1, C2, e2, f2, rfl, kq1, kq2, ga, gb, hB4⟩); (obtain ⟨w4, hw4⟩ : ∃ W, u4.alloc (.cells #[.int .u8 (q).tos, .int .u16 (q).id, .bool (q).keep, .int .u8 (q).ttl, .int .u8 (q).proto, .int .u32 (q).src, .int .u32 (q).dst, .slice C1 e1 f1, .slice C2 e2 f2] 26) = W := ⟨_, rfl⟩); have V4 : Below u4.heap.size u4 w4 := (by rw [← hw4]; (repeat (first | with_reducible exact Below.refl _ _ | with_reducible refine below_drew ?_ | with_reducible refine below_drewN ?_ _ | with_reducible refine below_alloc ?_ (Nat.le_refl _) _ | with_reducible refine Below.setCell ?_ (by first | exact Nat.le_refl _ | (simp only []; omega)) _ | with_reducible assumption))); (obtain ⟨kG4, hkG4⟩ : ∃ k : Nat, u4.heap.size = k := ⟨_, rfl⟩); have G4 : Blk w4 kG4 #[.int .u8 (q).tos, .int .u16 (q).id, .bool (q).keep, .int .u8 (q).ttl, .int .u8 (q).proto, .int .u32 (q).src, .int .u32 (q).dst, .slice C1 e1 f1, .slice C2 e2 f2] 26 := (by rw [← hw4]; exact blk_new u4 _ _ _ hkG4); have Gc4 := G4.cell; have T4 := below_then hB4 V4; have a4 := (kq1).below V4; have z4 := (kq2).below V4; have P4 := P3.below T4; have Pc4 := P4.cell; clear Pc3; have Z4 := Z3.below T4; have Zc4 := Z4.cell; clear Zc3; have Y4 := Y3.below T4; have Yc4 := Y4.cell; clear Yc3; have S4 := S3.below T4; have Sc4 := S4.cell; clear Sc3; have x4 := x3.below T4; have y4 := y3.below T4; have R4 := below_then R3 T4))
  obtain ⟨wf, hwf, Sf⟩ := store9 Z4 (.int .u8 0) (.int .u16 0) (.bool false) (.int .u8 0) (.int .u8 0) (.int .u32 0) (.int .u32 0) (.slice none 0 0) (.slice none 0 0)
  have Yf := Sf.other (by omega) Y4
  obtain ⟨wg, hwg, Sg⟩ := store5 Yf (.int .u8 0) (.int .u32 0) (.int .u32 0) (.int .u16 0) (.int .u16 0)
  rw [hwf, hwg]
  have Zg := Sg.other (by omega) Sf.blk
  have pf := Zg.cell
  have pg := Sg.blk.cell
  exact bodyPost_ret (v := .tuple #[.agg #[.int .u8 0, .int .u16 0, .bool false, .int .u8 0, .int .u8 0, .int .u32 0, .int .u32 0, .slice none 0 0, .slice none 0 0], .agg #[.int .u8 0, .int .u32 0, .int .u32 0, .int .u16 0, .int .u16 0], .int .i64 F]) (by simp [results, Try.results39, go_sem, pf, pg]) rfl ⟨none, 0, 0, none, 0, 0, rfl, Bs.none_ _, Bs.none_ _, Sg.bel (Sf.bel R4 (by omega)) (by omega)⟩

theorem inn_tcp (p : Pkt) (A1 : Option Addr) (n1 c1 : Nat) (A2 : Option Addr) (n2 c2 : Nat) (w : World) (k2 : Bs w A2 n2 c2 p.dat) (h1 : (p.proto != 1) = false) (s : Msg)  (ht : ∀ W, Bs W A2 n2 c2 p.dat → Calls Try.prog 16 #[(.agg #[.int .u8 (p).tos, .int .u16 (p).id, .bool (p).keep, .int .u8 (p).ttl, .int .u8 (p).proto, .int .u32 (p).src, .int .u32 (p).dst, .slice A1 n1 c1, .slice A2 n2 c2])] W (MsPost W s 0))  (he : ∀ B b1 b2 W, Calls Try.prog 69 #[(.agg #[.int .u8 (s).ty, .int .u8 (s).code, .int .u32 (s).rest, .slice B b1 b2])] W fun e w' => e = .returned (.bool true) ∧ Below W.heap.size W w') (q : Pkt)  (hq : ∀ B b1 b2 W, Bs W B b1 b2 s.dat → Calls Try.prog 70 #[.slice B b1 b2] W fun e w' => ∃ C1 e1 f1 C2 e2 f2, e = .returned (.tuple #[(.agg #[.int .u8 (q).tos, .int .u16 (q).id, .bool (q).keep, .int .u8 (q).ttl, .int .u8 (q).proto, .int .u32 (q).src, .int .u32 (q).dst, .slice C1 e1 f1, .slice C2 e2 f2]), .int .i64 0]) ∧ Bs w' C1 e1 f1 q.opt ∧ Bs w' C2 e2 f2 q.dat ∧ (∀ a, C1 = some a → W.heap.size ≤ a.block) ∧ (∀ a, C2 = some a → W.heap.size ≤ a.block) ∧ Below W.heap.size W w') (hpr : q.proto = 6) :
    Calls Try.prog 39 #[(.agg #[.int .u8 (p).tos, .int .u16 (p).id, .bool (p).keep, .int .u8 (p).ttl, .int .u8 (p).proto, .int .u32 (p).src, .int .u32 (p).dst, .slice A1 n1 c1, .slice A2 n2 c2])] w (InPost w q ⟨q.proto, q.src, q.dst, get16 q.dat 0, get16 q.dat 2⟩ 0) := by
  have y6 : (q.proto == 6) = true := by rw [hpr]; rfl
  clear hpr
  have cg0 := fun A n c W h => rget16_any A n c q.dat 0 W h
  have cg2 := fun A n c W h => rget16_any A n c q.dat 2 W h
  obtain ⟨g0, hg0⟩ : ∃ g, get16 q.dat 0 = g := ⟨_, rfl⟩
  obtain ⟨g2, hg2⟩ : ∃ g, get16 q.dat 2 = g := ⟨_, rfl⟩
  rw [hg0] at cg0
  rw [hg2] at cg2
  rw [hg0, hg2]
  clear hg0 hg2
  obtain ⟨k, hk⟩ : ∃ k : Nat, w.heap.size = k := ⟨_, rfl⟩
  obtain ⟨w1, hw1⟩ : ∃ W, (((w.alloc (.cells #[.int .u8 (p).tos, .int .u16 (p).id, .bool (p).keep, .int .u8 (p).ttl, .int .u8 (p).proto, .int .u32 (p).src, .int .u32 (p).dst, .slice A1 n1 c1, .slice A2 n2 c2] 26)).alloc (.cells #[.int .u8 0, .int .u16 0, .bool false, .int .u8 0, .int .u8 0, .int .u32 0, .int .u32 0, .slice none 0 0, .slice none 0 0] 26)).alloc (.cells #[.int .u8 0, .int .u32 0, .int .u32 0, .int .u16 0, .int .u16 0] 28)) = W := ⟨_, rfl⟩
  have P1 : Blk w1 k #[.int .u8 (p).tos, .int .u16 (p).id, .bool (p).keep, .int .u8 (p).ttl, .int .u8 (p).proto, .int .u32 (p).src, .int .u32 (p).dst, .slice A1 n1 c1, .slice A2 n2 c2] 26 := by rw [← hw1]; exact (((blk_new _ _ _ k (by simp [hk])).alloc _).alloc _)
  have Z1 : Blk w1 (k + 1) #[.int .u8 0, .int .u16 0, .bool false, .int .u8 0, .int .u8 0, .int .u32 0, .int .u32 0, .slice none 0 0, .slice none 0 0] 26 := by rw [← hw1]; exact ((blk_new _ _ _ (k + 1) (by simp [hk])).alloc _)
  have Y1 : Blk w1 (k + 1 + 1) #[.int .u8 0, .int .u32 0, .int .u32 0, .int .u16 0, .int .u16 0] 28 := by rw [← hw1]; exact (blk_new _ _ _ (k + 1 + 1) (by simp [hk]))
  have R1 : Below w.heap.size w w1 := by rw [← hw1]; (repeat (first | with_reducible exact Below.refl _ _ | with_reducible refine below_drew ?_ | with_reducible refine below_drewN ?_ _ | with_reducible refine below_alloc ?_ (Nat.le_refl _) _ | with_reducible refine Below.setCell ?_ (by first | exact Nat.le_refl _ | (simp only []; omega)) _ | with_reducible assumption))
  have Pc1 := P1.cell
  have Zc1 := Z1.cell
  have Yc1 := Y1.cell
  have Pl1 := P1.lt
  have Zl1 := Z1.lt
  have Yl1 := Y1.lt
  have x1 := (k2).below R1
  go_enter Try.func39, Try.ntmps39
  go_wp2_with (first
    | (go_at_call 16; ((with_reducible refine (ht w1 x1).mono ?_); rintro e u2 ⟨⟨DA, dn, dc, rfl, ho, hB2⟩⟩); (obtain ⟨w2, hw2⟩ : ∃ W, u2.alloc (.cells #[.int .u8 (s).ty, .int .u8 (s).code, .int .u32 (s).rest, .slice DA dn dc] 42) = W := ⟨_, rfl⟩); have V2 : Below u2.heap.size u2 w2 := (by rw [← hw2]; (repeat (first | with_reducible exact Below.refl _ _ | with_reducible refine below_drew ?_ | with_reducible refine below_drewN ?_ _ | with_reducible refine below_alloc ?_ (Nat.le_refl _) _ | with_reducible refine Below.setCell ?_ (by first | exact Nat.le_refl _ | (simp only []; omega)) _ | with_reducible assumption))); (obtain ⟨kS2, hkS2⟩ : ∃ k : Nat, u2.heap.size = k := ⟨_, rfl⟩); have S2 : Blk w2 kS2 #[.int .u8 (s).ty, .int .u8 (s).code, .int .u32 (s).rest, .slice DA dn dc] 42 := (by rw [← hw2]; exact blk_new u2 _ _ _ hkS2); have Sc2 := S2.cell; have T2 := below_then hB2 V2; have y2 := (ho.bs).below V2; have P2 := P1.below T2; have Pc2 := P2.cell; clear Pc1; have Z2 := Z1.below T2; have Zc2 := Z2.cell; clear Zc1; have Y2 := Y1.below T2; have Yc2 := Y2.cell; clear Yc1; have x2 := x1.below T2; have R2 := below_then R1 T2)
    | (go_at_call 69; ((with_reducible refine (he DA dn dc w2).mono ?_); rintro e w3 ⟨rfl, hB3⟩); have P3 := P2.below hB3; have Pc3 := P3.cell; clear Pc2; have Z3 := Z2.below hB3; have Zc3 := Z3.cell; clear Zc2; have Y3 := Y2.below hB3; have Yc3 := Y3.cell; clear Yc2; have S3 := S2.below hB3; have Sc3 := S3.cell; clear Sc2; have x3 := x2.below hB3; have y3 := y2.below hB3; have R3 := below_then R2 hB3)
    | (go_at_call 70; ((with_reducible refine (hq DA dn dc w3 y3).mono ?_); rintro e u4 ⟨C1, e1, f1, C2, e2, f2, rfl, kq1, kq2, ga, gb, hB4⟩); (obtain ⟨w4, hw4⟩ : ∃ W, u4.alloc (.cells #[.int .u8 (q).tos, .int .u16 (q).id, .bool (q).keep, .int .u8 (q).ttl, .int .u8 (q).proto, .int .u32 (q).src, .int .u32 (q).dst, .slice C1 e1 f1, .slice C2 e2 f2] 26) = W := ⟨_, rfl⟩); have V4 : Below u4.heap.size u4 w4 := (by rw [← hw4]; (repeat (first | with_reducible exact Below.refl _ _ | with_reducible refine below_drew ?_ | with_reducible refine below_drewN ?_ _ | with_reducible refine below_alloc ?_ (Nat.le_refl _) _ | with_reducible refine Below.setCell ?_ (by first | exact Nat.le_refl _ | (simp only []; omega)) _ | with_reducible assumption))); (obtain ⟨kG4, hkG4⟩ : ∃ k : Nat, u4.heap.size = k := ⟨_, rfl⟩); have G4 : Blk w4 kG4 #[.int .u8 (q).tos, .int .u16 (q).id, .bool (q).keep, .int .u8 (q).ttl, .int .u8 (q).proto, .int .u32 (q).src, .int .u32 (q).dst, .slice C1 e1 f1, .slice C2 e2 f2] 26 := (by rw [← hw4]; exact blk_new u4 _ _ _ hkG4); have Gc4 := G4.cell; have T4 := below_then hB4 V4; have a4 := (kq1).below V4; have z4 := (kq2).below V4; have P4 := P3.below T4; have Pc4 := P4.cell; clear Pc3; have Z4 := Z3.below T4; have Zc4 := Z4.cell; clear Zc3; have Y4 := Y3.below T4; have Yc4 := Y4.cell; clear Yc3; have S4 := S3.below T4; have Sc4 := S4.cell; clear Sc3; have x4 := x3.below T4; have y4 := y3.below T4; have R4 := below_then R3 T4; (obtain ⟨w5, hw5⟩ : ∃ W, w4.alloc (.cells #[.int .u8 q.proto, .int .u32 q.src, .int .u32 q.dst, .int .u16 0, .int .u16 0] 28) = W := ⟨_, rfl⟩); have V5 : Below w4.heap.size w4 w5 := (by rw [← hw5]; (repeat (first | with_reducible exact Below.refl _ _ | with_reducible refine below_drew ?_ | with_reducible refine below_drewN ?_ _ | with_reducible refine below_alloc ?_ (Nat.le_refl _) _ | with_reducible refine Below.setCell ?_ (by first | exact Nat.le_refl _ | (simp only []; omega)) _ | with_reducible assumption))); (obtain ⟨kX5, hkX5⟩ : ∃ k : Nat, w4.heap.size = k := ⟨_, rfl⟩); have X5 : Blk w5 kX5 #[.int .u8 q.proto, .int .u32 q.src, .int .u32 q.dst, .int .u16 0, .int .u16 0] 28 := (by rw [← hw5]; exact blk_new w4 _ _ _ hkX5); have Xc5 := X5.cell; have P5 := P4.below V5; have Pc5 := P5.cell; have Z5 := Z4.below V5; have Zc5 := Z5.cell; have Y5 := Y4.below V5; have Yc5 := Y5.cell; have S5 := S4.below V5; have Sc5 := S5.cell; have G5 := G4.below V5; have Gc5 := G5.cell; have x5 := x4.below V5; have y5 := y4.below V5; have a5 := a4.below V5; have z5 := z4.below V5; have R5 := below_then R4 V5; have i3 : w5.setCell ⟨kX5, 3, none⟩ (.int .u16 0) = w5 := X5.idle rfl; have i4 : w5.setCell ⟨kX5, 4, none⟩ (.int .u16 0) = w5 := X5.idle rfl))
  refine region_txt 7 (by kernel_rfl) (by kernel_rfl) ?_; (iterate 7 (first | (apply ObsK.skip (by rfl)) | (apply ObsK.v (by rfl); (intro wo hT; (repeat (first | (intro _ _ k; try have hcv := cv k))); (have gc := (G5.below hT).cell; have zo := z5.below hT); refine Goes.mk ?_; go_simp; first | exact goes_v | exact goes_b (by assumption) | (refine goes_enter ?_; first | (go_at_call 55; ((with_reducible refine (cg0 C2 e2 f2 wo zo).mono ?_); rintro e w7 ⟨rfl, hD5⟩); exact ret_v hD5.bel) | (go_at_call 55; ((with_reducible refine (cg2 C2 e2 f2 wo zo).mono ?_); rintro e w7 ⟨rfl, hD5⟩); exact ret_v hD5.bel)))) | (apply ObsK.b (by rfl); (intro wo hT; (repeat (first | (intro _ _ k; try have hcv := cv k))); (have gc := (G5.below hT).cell; have zo := z5.below hT); refine Goes.mk ?_; go_simp; first | exact goes_v | exact goes_b (by assumption) | (refine goes_enter ?_; first | (go_at_call 55; ((with_reducible refine (cg0 C2 e2 f2 wo zo).mono ?_); rintro e w7 ⟨rfl, hD5⟩); exact ret_v hD5.bel) | (go_at_call 55; ((with_reducible refine (cg2 C2 e2 f2 wo zo).mono ?_); rintro e w7 ⟨rfl, hD5⟩); exact ret_v hD5.bel)))))); refine ObsK.nil ?_; intro wz hBz; simp only [finOn, List.drop_succ_cons, List.drop_zero, List.drop_nil]
  go_simp
  have X6 := X5.below hBz
  have Xc6 := X6.cell
  obtain ⟨w9, hw9, S9⟩ := store34 X6 (.int .u16 g0) (.int .u16 g2)
  have B9 := S9.bel (below_then V5 hBz) (by omega)
  have G9 := G4.below B9
  have Gc9 := G9.cell
  have Z9 := Z4.below B9
  have Zc9 := Z9.cell
  have Y9 := Y4.below B9
  have Yc9 := Y9.cell
  have a9 := a4.below B9
  have z9 := z4.below B9
  have R9 := below_then R4 B9
  have X9 := S9.blk
  have Xc9 := X9.cell
  go_wp2_with fail
  have y3 := Y3.lt
  have y4 := Y4.lt
  obtain ⟨wf, hwf, Sf⟩ := store9 Z9 (.int .u8 q.tos) (.int .u16 q.id) (.bool q.keep) (.int .u8 q.ttl) (.int .u8 q.proto) (.int .u32 q.src) (.int .u32 q.dst) (.slice C1 e1 f1) (.slice C2 e2 f2)
  have Yf := Sf.other (by omega) Y9
  have Yfc := Yf.cell
  have Xf := Sf.other (by omega) X9
  have Xfc := Xf.cell
  obtain ⟨wg, hwg, Sg⟩ : ∃ wg, (((((wf.setCell ⟨k + 1 + 1, 0, none⟩ (.int .u8 q.proto)).setCell ⟨k + 1 + 1, 1, none⟩ (.int .u32 q.src)).setCell ⟨k + 1 + 1, 2, none⟩ (.int .u32 q.dst)).setCell ⟨k + 1 + 1, 3, none⟩ (.int .u16 g0)).setCell ⟨k + 1 + 1, 4, none⟩ (.int .u16 g2)).drew = wg ∧ Sto wf (k + 1 + 1) wg #[.int .u8 q.proto, .int .u32 q.src, .int .u32 q.dst, .int .u16 g0, .int .u16 g2] 28 := ⟨_, rfl, by
    obtain ⟨wh, hwh, Sh⟩ := store5 Yf (.int .u8 q.proto) (.int .u32 q.src) (.int .u32 q.dst) (.int .u16 g0) (.int .u16 g2)
    rw [hwh]
    exact Sh.drew⟩
  have Zg := Sg.other (by omega) Sf.blk
  have pf := Zg.cell
  have pg := Sg.blk.cell
  have ka := Sg.bs (Sf.bs a9 (fun x h => by have := ga x h; omega)) (fun x h => by have := ga x h; omega)
  have kb := Sg.bs (Sf.bs z9 (fun x h => by have := gb x h; omega)) (fun x h => by have := gb x h; omega)
  have RG := Sg.bel (Sf.bel R9 (by omega)) (by omega)
  clear Xf Yf Sf Sg Zg X9 Y9 Z9 G9 a9 z9
  go_region
  go_wp2_with fail
  exact bodyPost_ret (v := .tuple #[(.agg #[.int .u8 (q).tos, .int .u16 (q).id, .bool (q).keep, .int .u8 (q).ttl, .int .u8 (q).proto, .int .u32 (q).src, .int .u32 (q).dst, .slice C1 e1 f1, .slice C2 e2 f2]), (.agg #[.int .u8 ((⟨q.proto, q.src, q.dst, g0, g2⟩ : Tup)).proto, .int .u32 ((⟨q.proto, q.src, q.dst, g0, g2⟩ : Tup)).src, .int .u32 ((⟨q.proto, q.src, q.dst, g0, g2⟩ : Tup)).dst, .int .u16 ((⟨q.proto, q.src, q.dst, g0, g2⟩ : Tup)).sp, .int .u16 ((⟨q.proto, q.src, q.dst, g0, g2⟩ : Tup)).dp]), .int .i64 0]) (by simp [results, Try.results39, go_sem, pf, pg]) rfl ⟨C1, e1, f1, C2, e2, f2, rfl, ka, kb, RG⟩

theorem inn_udp (p : Pkt) (A1 : Option Addr) (n1 c1 : Nat) (A2 : Option Addr) (n2 c2 : Nat) (w : World) (k2 : Bs w A2 n2 c2 p.dat) (h1 : (p.proto != 1) = false) (s : Msg)  (ht : ∀ W, Bs W A2 n2 c2 p.dat → Calls Try.prog 16 #[(.agg #[.int .u8 (p).tos, .int .u16 (p).id, .bool (p).keep, .int .u8 (p).ttl, .int .u8 (p).proto, .int .u32 (p).src, .int .u32 (p).dst, .slice A1 n1 c1, .slice A2 n2 c2])] W (MsPost W s 0))  (he : ∀ B b1 b2 W, Calls Try.prog 69 #[(.agg #[.int .u8 (s).ty, .int .u8 (s).code, .int .u32 (s).rest, .slice B b1 b2])] W fun e w' => e = .returned (.bool true) ∧ Below W.heap.size W w') (q : Pkt)  (hq : ∀ B b1 b2 W, Bs W B b1 b2 s.dat → Calls Try.prog 70 #[.slice B b1 b2] W fun e w' => ∃ C1 e1 f1 C2 e2 f2, e = .returned (.tuple #[(.agg #[.int .u8 (q).tos, .int .u16 (q).id, .bool (q).keep, .int .u8 (q).ttl, .int .u8 (q).proto, .int .u32 (q).src, .int .u32 (q).dst, .slice C1 e1 f1, .slice C2 e2 f2]), .int .i64 0]) ∧ Bs w' C1 e1 f1 q.opt ∧ Bs w' C2 e2 f2 q.dat ∧ (∀ a, C1 = some a → W.heap.size ≤ a.block) ∧ (∀ a, C2 = some a → W.heap.size ≤ a.block) ∧ Below W.heap.size W w') (hpr : q.proto = 17) :
    Calls Try.prog 39 #[(.agg #[.int .u8 (p).tos, .int .u16 (p).id, .bool (p).keep, .int .u8 (p).ttl, .int .u8 (p).proto, .int .u32 (p).src, .int .u32 (p).dst, .slice A1 n1 c1, .slice A2 n2 c2])] w (InPost w q ⟨q.proto, q.src, q.dst, get16 q.dat 0, get16 q.dat 2⟩ 0) := by
  have hn6 : (q.proto == 6) = false := by rw [hpr]; rfl
  have y17 : (q.proto == 17) = true := by rw [hpr]; rfl
  clear hpr
  have cg0 := fun A n c W h => rget16_any A n c q.dat 0 W h
  have cg2 := fun A n c W h => rget16_any A n c q.dat 2 W h
  obtain ⟨g0, hg0⟩ : ∃ g, get16 q.dat 0 = g := ⟨_, rfl⟩
  obtain ⟨g2, hg2⟩ : ∃ g, get16 q.dat 2 = g := ⟨_, rfl⟩
  rw [hg0] at cg0
  rw [hg2] at cg2
  rw [hg0, hg2]
  clear hg0 hg2
  obtain ⟨k, hk⟩ : ∃ k : Nat, w.heap.size = k := ⟨_, rfl⟩
  obtain ⟨w1, hw1⟩ : ∃ W, (((w.alloc (.cells #[.int .u8 (p).tos, .int .u16 (p).id, .bool (p).keep, .int .u8 (p).ttl, .int .u8 (p).proto, .int .u32 (p).src, .int .u32 (p).dst, .slice A1 n1 c1, .slice A2 n2 c2] 26)).alloc (.cells #[.int .u8 0, .int .u16 0, .bool false, .int .u8 0, .int .u8 0, .int .u32 0, .int .u32 0, .slice none 0 0, .slice none 0 0] 26)).alloc (.cells #[.int .u8 0, .int .u32 0, .int .u32 0, .int .u16 0, .int .u16 0] 28)) = W := ⟨_, rfl⟩
  have P1 : Blk w1 k #[.int .u8 (p).tos, .int .u16 (p).id, .bool (p).keep, .int .u8 (p).ttl, .int .u8 (p).proto, .int .u32 (p).src, .int .u32 (p).dst, .slice A1 n1 c1, .slice A2 n2 c2] 26 := by rw [← hw1]; exact (((blk_new _ _ _ k (by simp [hk])).alloc _).alloc _)
  have Z1 : Blk w1 (k + 1) #[.int .u8 0, .int .u16 0, .bool false, .int .u8 0, .int .u8 0, .int .u32 0, .int .u32 0, .slice none 0 0, .slice none 0 0] 26 := by rw [← hw1]; exact ((blk_new _ _ _ (k + 1) (by simp [hk])).alloc _)
  have Y1 : Blk w1 (k + 1 + 1) #[.int .u8 0, .int .u32 0, .int .u32 0, .int .u16 0, .int .u16 0] 28 := by rw [← hw1]; exact (blk_new _ _ _ (k + 1 + 1) (by simp [hk]))
  have R1 : Below w.heap.size w w1 := by rw [← hw1]; (repeat (first | with_reducible exact Below.refl _ _ | with_reducible refine below_drew ?_ | with_reducible refine below_drewN ?_ _ | with_reducible refine below_alloc ?_ (Nat.le_refl _) _ | with_reducible refine Below.setCell ?_ (by first | exact Nat.le_refl _ | (simp only []; omega)) _ | with_reducible assumption))
  have Pc1 := P1.cell
  have Zc1 := Z1.cell
  have Yc1 := Y1.cell
  have Pl1 := P1.lt
  have Zl1 := Z1.lt
  have Yl1 := Y1.lt
  have x1 := (k2).below R1
  go_enter Try.func39, Try.ntmps39
  go_wp2_with (first
    | (go_at_call 16; ((with_reducible refine (ht w1 x1).mono ?_); rintro e u2 ⟨⟨DA, dn, dc, rfl, ho, hB2⟩⟩); (obtain ⟨w2, hw2⟩ : ∃ W, u2.alloc (.cells #[.int .u8 (s).ty, .int .u8 (s).code, .int .u32 (s).rest, .slice DA dn dc] 42) = W := ⟨_, rfl⟩); have V2 : Below u2.heap.size u2 w2 := (by rw [← hw2]; (repeat (first | with_reducible exact Below.refl _ _ | with_reducible refine below_drew ?_ | with_reducible refine below_drewN ?_ _ | with_reducible refine below_alloc ?_ (Nat.le_refl _) _ | with_reducible refine Below.setCell ?_ (by first | exact Nat.le_refl _ | (simp only []; omega)) _ | with_reducible assumption))); (obtain ⟨kS2, hkS2⟩ : ∃ k : Nat, u2.heap.size = k := ⟨_, rfl⟩); have S2 : Blk w2 kS2 #[.int .u8 (s).ty, .int .u8 (s).code, .int .u32 (s).rest, .slice DA dn dc] 42 := (by rw [← hw2]; exact blk_new u2 _ _ _ hkS2); have Sc2 := S2.cell; have T2 := below_then hB2 V2; have y2 := (ho.bs).below V2; have P2 := P1.below T2; have Pc2 := P2.cell; clear Pc1; have Z2 := Z1.below T2; have Zc2 := Z2.cell; clear Zc1; have Y2 := Y1.below T2; have Yc2 := Y2.cell; clear Yc1; have x2 := x1.below T2; have R2 := below_then R1 T2)
    | (go_at_call 69; ((with_reducible refine (he DA dn dc w2).mono ?_); rintro e w3 ⟨rfl, hB3⟩); have P3 := P2.below hB3; have Pc3 := P3.cell; clear Pc2; have Z3 := Z2.below hB3; have Zc3 := Z3.cell; clear Zc2; have Y3 := Y2.below hB3; have Yc3 := Y3.cell; clear Yc2; have S3 := S2.below hB3; have Sc3 := S3.cell; clear Sc2; have x3 := x2.below hB3; have y3 := y2.below hB3; have R3 := below_then R2 hB3)
    | (go_at_call 70; ((with_reducible refine (hq DA dn dc w3 y3).mono ?_); rintro e u4 ⟨C1, e1, f1, C2, e2, f2, rfl, kq1, kq2, ga, gb, hB4⟩); (obtain ⟨w4, hw4⟩ : ∃ W, u4.alloc (.cells #[.int .u8 (q).tos, .int .u16 (q).id, .bool (q).keep, .int .u8 (q).ttl, .int .u8 (q).proto, .int .u32 (q).src, .int .u32 (q).dst, .slice C1 e1 f1, .slice C2 e2 f2] 26) = W := ⟨_, rfl⟩); have V4 : Below u4.heap.size u4 w4 := (by rw [← hw4]; (repeat (first | with_reducible exact Below.refl _ _ | with_reducible refine below_drew ?_ | with_reducible refine below_drewN ?_ _ | with_reducible refine below_alloc ?_ (Nat.le_refl _) _ | with_reducible refine Below.setCell ?_ (by first | exact Nat.le_refl _ | (simp only []; omega)) _ | with_reducible assumption))); (obtain ⟨kG4, hkG4⟩ : ∃ k : Nat, u4.heap.size = k := ⟨_, rfl⟩); have G4 : Blk w4 kG4 #[.int .u8 (q).tos, .int .u16 (q).id, .bool (q).keep, .int .u8 (q).ttl, .int .u8 (q).proto, .int .u32 (q).src, .int .u32 (q).dst, .slice C1 e1 f1, .slice C2 e2 f2] 26 := (by rw [← hw4]; exact blk_new u4 _ _ _ hkG4); have Gc4 := G4.cell; have T4 := below_then hB4 V4; have a4 := (kq1).below V4; have z4 := (kq2).below V4; have P4 := P3.below T4; have Pc4 := P4.cell; clear Pc3; have Z4 := Z3.below T4; have Zc4 := Z4.cell; clear Zc3; have Y4 := Y3.below T4; have Yc4 := Y4.cell; clear Yc3; have S4 := S3.below T4; have Sc4 := S4.cell; clear Sc3; have x4 := x3.below T4; have y4 := y3.below T4; have R4 := below_then R3 T4; (obtain ⟨w5, hw5⟩ : ∃ W, w4.alloc (.cells #[.int .u8 q.proto, .int .u32 q.src, .int .u32 q.dst, .int .u16 0, .int .u16 0] 28) = W := ⟨_, rfl⟩); have V5 : Below w4.heap.size w4 w5 := (by rw [← hw5]; (repeat (first | with_reducible exact Below.refl _ _ | with_reducible refine below_drew ?_ | with_reducible refine below_drewN ?_ _ | with_reducible refine below_alloc ?_ (Nat.le_refl _) _ | with_reducible refine Below.setCell ?_ (by first | exact Nat.le_refl _ | (simp only []; omega)) _ | with_reducible assumption))); (obtain ⟨kX5, hkX5⟩ : ∃ k : Nat, w4.heap.size = k := ⟨_, rfl⟩); have X5 : Blk w5 kX5 #[.int .u8 q.proto, .int .u32 q.src, .int .u32 q.dst, .int .u16 0, .int .u16 0] 28 := (by rw [← hw5]; exact blk_new w4 _ _ _ hkX5); have Xc5 := X5.cell; have P5 := P4.below V5; have Pc5 := P5.cell; have Z5 := Z4.below V5; have Zc5 := Z5.cell; have Y5 := Y4.below V5; have Yc5 := Y5.cell; have S5 := S4.below V5; have Sc5 := S5.cell; have G5 := G4.below V5; have Gc5 := G5.cell; have x5 := x4.below V5; have y5 := y4.below V5; have a5 := a4.below V5; have z5 := z4.below V5; have R5 := below_then R4 V5; have i3 : w5.setCell ⟨kX5, 3, none⟩ (.int .u16 0) = w5 := X5.idle rfl; have i4 : w5.setCell ⟨kX5, 4, none⟩ (.int .u16 0) = w5 := X5.idle rfl))
  refine region_txt 7 (by kernel_rfl) (by kernel_rfl) ?_; (iterate 7 (first | (apply ObsK.skip (by rfl)) | (apply ObsK.v (by rfl); (intro wo hT; (repeat (first | (intro _ _ k; try have hcv := cv k))); (have gc := (G5.below hT).cell; have zo := z5.below hT); refine Goes.mk ?_; go_simp; first | exact goes_v | exact goes_b (by assumption) | (refine goes_enter ?_; first | (go_at_call 55; ((with_reducible refine (cg0 C2 e2 f2 wo zo).mono ?_); rintro e w7 ⟨rfl, hD5⟩); exact ret_v hD5.bel) | (go_at_call 55; ((with_reducible refine (cg2 C2 e2 f2 wo zo).mono ?_); rintro e w7 ⟨rfl, hD5⟩); exact ret_v hD5.bel)))) | (apply ObsK.b (by rfl); (intro wo hT; (repeat (first | (intro _ _ k; try have hcv := cv k))); (have gc := (G5.below hT).cell; have zo := z5.below hT); refine Goes.mk ?_; go_simp; first | exact goes_v | exact goes_b (by assumption) | (refine goes_enter ?_; first | (go_at_call 55; ((with_reducible refine (cg0 C2 e2 f2 wo zo).mono ?_); rintro e w7 ⟨rfl, hD5⟩); exact ret_v hD5.bel) | (go_at_call 55; ((with_reducible refine (cg2 C2 e2 f2 wo zo).mono ?_); rintro e w7 ⟨rfl, hD5⟩); exact ret_v hD5.bel)))))); refine ObsK.nil ?_; intro wz hBz; simp only [finOn, List.drop_succ_cons, List.drop_zero, List.drop_nil]
  go_simp
  have X6 := X5.below hBz
  have Xc6 := X6.cell
  obtain ⟨w9, hw9, S9⟩ := store34 X6 (.int .u16 g0) (.int .u16 g2)
  have B9 := S9.bel (below_then V5 hBz) (by omega)
  have G9 := G4.below B9
  have Gc9 := G9.cell
  have Z9 := Z4.below B9
  have Zc9 := Z9.cell
  have Y9 := Y4.below B9
  have Yc9 := Y9.cell
  have a9 := a4.below B9
  have z9 := z4.below B9
  have R9 := below_then R4 B9
  have X9 := S9.blk
  have Xc9 := X9.cell
  go_wp2_with fail
  have y3 := Y3.lt
  have y4 := Y4.lt
  obtain ⟨wf, hwf, Sf⟩ := store9 Z9 (.int .u8 q.tos) (.int .u16 q.id) (.bool q.keep) (.int .u8 q.ttl) (.int .u8 q.proto) (.int .u32 q.src) (.int .u32 q.dst) (.slice C1 e1 f1) (.slice C2 e2 f2)
  have Yf := Sf.other (by omega) Y9
  have Yfc := Yf.cell
  have Xf := Sf.other (by omega) X9
  have Xfc := Xf.cell
  obtain ⟨wg, hwg, Sg⟩ : ∃ wg, (((((wf.setCell ⟨k + 1 + 1, 0, none⟩ (.int .u8 q.proto)).setCell ⟨k + 1 + 1, 1, none⟩ (.int .u32 q.src)).setCell ⟨k + 1 + 1, 2, none⟩ (.int .u32 q.dst)).setCell ⟨k + 1 + 1, 3, none⟩ (.int .u16 g0)).setCell ⟨k + 1 + 1, 4, none⟩ (.int .u16 g2)).drew = wg ∧ Sto wf (k + 1 + 1) wg #[.int .u8 q.proto, .int .u32 q.src, .int .u32 q.dst, .int .u16 g0, .int .u16 g2] 28 := ⟨_, rfl, by
    obtain ⟨wh, hwh, Sh⟩ := store5 Yf (.int .u8 q.proto) (.int .u32 q.src) (.int .u32 q.dst) (.int .u16 g0) (.int .u16 g2)
    rw [hwh]
    exact Sh.drew⟩
  have Zg := Sg.other (by omega) Sf.blk
  have pf := Zg.cell
  have pg := Sg.blk.cell
  have ka := Sg.bs (Sf.bs a9 (fun x h => by have := ga x h; omega)) (fun x h => by have := ga x h; omega)
  have kb := Sg.bs (Sf.bs z9 (fun x h => by have := gb x h; omega)) (fun x h => by have := gb x h; omega)
  have RG := Sg.bel (Sf.bel R9 (by omega)) (by omega)
  clear Xf Yf Sf Sg Zg X9 Y9 Z9 G9 a9 z9
  go_region
  go_wp2_with fail
  exact bodyPost_ret (v := .tuple #[(.agg #[.int .u8 (q).tos, .int .u16 (q).id, .bool (q).keep, .int .u8 (q).ttl, .int .u8 (q).proto, .int .u32 (q).src, .int .u32 (q).dst, .slice C1 e1 f1, .slice C2 e2 f2]), (.agg #[.int .u8 ((⟨q.proto, q.src, q.dst, g0, g2⟩ : Tup)).proto, .int .u32 ((⟨q.proto, q.src, q.dst, g0, g2⟩ : Tup)).src, .int .u32 ((⟨q.proto, q.src, q.dst, g0, g2⟩ : Tup)).dst, .int .u16 ((⟨q.proto, q.src, q.dst, g0, g2⟩ : Tup)).sp, .int .u16 ((⟨q.proto, q.src, q.dst, g0, g2⟩ : Tup)).dp]), .int .i64 0]) (by simp [results, Try.results39, go_sem, pf, pg]) rfl ⟨C1, e1, f1, C2, e2, f2, rfl, ka, kb, RG⟩

theorem inn_gre (p : Pkt) (A1 : Option Addr) (n1 c1 : Nat) (A2 : Option Addr) (n2 c2 : Nat) (w : World) (k2 : Bs w A2 n2 c2 p.dat) (h1 : (p.proto != 1) = false) (s : Msg)  (ht : ∀ W, Bs W A2 n2 c2 p.dat → Calls Try.prog 16 #[(.agg #[.int .u8 (p).tos, .int .u16 (p).id, .bool (p).keep, .int .u8 (p).ttl, .int .u8 (p).proto, .int .u32 (p).src, .int .u32 (p).dst, .slice A1 n1 c1, .slice A2 n2 c2])] W (MsPost W s 0))  (he : ∀ B b1 b2 W, Calls Try.prog 69 #[(.agg #[.int .u8 (s).ty, .int .u8 (s).code, .int .u32 (s).rest, .slice B b1 b2])] W fun e w' => e = .returned (.bool true) ∧ Below W.heap.size W w') (q : Pkt)  (hq : ∀ B b1 b2 W, Bs W B b1 b2 s.dat → Calls Try.prog 70 #[.slice B b1 b2] W fun e w' => ∃ C1 e1 f1 C2 e2 f2, e = .returned (.tuple #[(.agg #[.int .u8 (q).tos, .int .u16 (q).id, .bool (q).keep, .int .u8 (q).ttl, .int .u8 (q).proto, .int .u32 (q).src, .int .u32 (q).dst, .slice C1 e1 f1, .slice C2 e2 f2]), .int .i64 0]) ∧ Bs w' C1 e1 f1 q.opt ∧ Bs w' C2 e2 f2 q.dat ∧ (∀ a, C1 = some a → W.heap.size ≤ a.block) ∧ (∀ a, C2 = some a → W.heap.size ≤ a.block) ∧ Below W.heap.size W w') (hpr : q.proto = 47) (h8 : 8 ≤ q.dat.length) :
    Calls Try.prog 39 #[(.agg #[.int .u8 (p).tos, .int .u16 (p).id, .bool (p).keep, .int .u8 (p).ttl, .int .u8 (p).proto, .int .u32 (p).src, .int .u32 (p).dst, .slice A1 n1 c1, .slice A2 n2 c2])] w (InPost w (if begB q.dat = false then zP else q) (if begB q.dat = false then zT else ⟨q.proto, q.src, q.dst, 0, get16 q.dat 6⟩) (if begB q.dat = false then 4 else 0)) := by
  have hn6 : (q.proto == 6) = false := by rw [hpr]; rfl
  have hn17 : (q.proto == 17) = false := by rw [hpr]; rfl
  have hn1 : (q.proto == 1) = false := by rw [hpr]; rfl
  have y47 : (q.proto == 47) = true := by rw [hpr]; rfl
  clear hpr
  have cg0 := fun A n c W h => rget16_any A n c q.dat 6 W h
  have cb : ∀ A n c W, Bs W A n c q.dat → Calls Try.prog 56 #[.slice A n c] W fun e w' => e = .returned (.bool (begB q.dat)) ∧ Below W.heap.size W w' := fun A n c W k => by
    refine (rbegin_any A n c q.dat W k).mono ?_
    rintro e w' ⟨rfl, rfl⟩
    have := k.len
    rw [show decide (4 ≤ (n : Int)) = true from by simp; omega]
    exact ⟨by simp, Below.refl _ _⟩
  obtain ⟨g0, hg0⟩ : ∃ g, get16 q.dat 6 = g := ⟨_, rfl⟩
  obtain ⟨b, hb⟩ : ∃ b, begB q.dat = b := ⟨_, rfl⟩
  rw [hg0] at cg0
  rw [hb] at cb
  rw [hg0, hb]
  clear hg0 hb h8
  obtain ⟨k, hk⟩ : ∃ k : Nat, w.heap.size = k := ⟨_, rfl⟩
  obtain ⟨w1, hw1⟩ : ∃ W, (((w.alloc (.cells #[.int .u8 (p).tos, .int .u16 (p).id, .bool (p).keep, .int .u8 (p).ttl, .int .u8 (p).proto, .int .u32 (p).src, .int .u32 (p).dst, .slice A1 n1 c1, .slice A2 n2 c2] 26)).alloc (.cells #[.int .u8 0, .int .u16 0, .bool false, .int .u8 0, .int .u8 0, .int .u32 0, .int .u32 0, .slice none 0 0, .slice none 0 0] 26)).alloc (.cells #[.int .u8 0, .int .u32 0, .int .u32 0, .int .u16 0, .int .u16 0] 28)) = W := ⟨_, rfl⟩
  have P1 : Blk w1 k #[.int .u8 (p).tos, .int .u16 (p).id, .bool (p).keep, .int .u8 (p).ttl, .int .u8 (p).proto, .int .u32 (p).src, .int .u32 (p).dst, .slice A1 n1 c1, .slice A2 n2 c2] 26 := by rw [← hw1]; exact (((blk_new _ _ _ k (by simp [hk])).alloc _).alloc _)
  have Z1 : Blk w1 (k + 1) #[.int .u8 0, .int .u16 0, .bool false, .int .u8 0, .int .u8 0, .int .u32 0, .int .u32 0, .slice none 0 0, .slice none 0 0] 26 := by rw [← hw1]; exact ((blk_new _ _ _ (k + 1) (by simp [hk])).alloc _)
  have Y1 : Blk w1 (k + 1 + 1) #[.int .u8 0, .int .u32 0, .int .u32 0, .int .u16 0, .int .u16 0] 28 := by rw [← hw1]; exact (blk_new _ _ _ (k + 1 + 1) (by simp [hk]))
  have R1 : Below w.heap.size w w1 := by rw [← hw1]; (repeat (first | with_reducible exact Below.refl _ _ | with_reducible refine below_drew ?_ | with_reducible refine below_drewN ?_ _ | with_reducible refine below_alloc ?_ (Nat.le_refl _) _ | with_reducible refine Below.setCell ?_ (by first | exact Nat.le_refl _ | (simp only []; omega)) _ | with_reducible assumption))
  have Pc1 := P1.cell
  have Zc1 := Z1.cell
  have Yc1 := Y1.cell
  have Pl1 := P1.lt
  have Zl1 := Z1.lt
  have Yl1 := Y1.lt
  have x1 := (k2).below R1
  cases b
  · rw [if_pos rfl, if_pos rfl, if_pos rfl]
    go_enter Try.func39, Try.ntmps39
    go_wp2_with (first
      | (go_at_call 16; ((with_reducible refine (ht w1 x1).mono ?_); rintro e u2 ⟨⟨DA, dn, dc, rfl, ho, hB2⟩⟩); (obtain ⟨w2, hw2⟩ : ∃ W, u2.alloc (.cells #[.int .u8 (s).ty, .int .u8 (s).code, .int .u32 (s).rest, .slice DA dn dc] 42) = W := ⟨_, rfl⟩); have V2 : Below u2.heap.size u2 w2 := (by rw [← hw2]; (repeat (first | with_reducible exact Below.refl _ _ | with_reducible refine below_drew ?_ | with_reducible refine below_drewN ?_ _ | with_reducible refine below_alloc ?_ (Nat.le_refl _) _ | with_reducible refine Below.setCell ?_ (by first | exact Nat.le_refl _ | (simp only []; omega)) _ | with_reducible assumption))); (obtain ⟨kS2, hkS2⟩ : ∃ k : Nat, u2.heap.size = k := ⟨_, rfl⟩); have S2 : Blk w2 kS2 #[.int .u8 (s).ty, .int .u8 (s).code, .int .u32 (s).rest, .slice DA dn dc] 42 := (by rw [← hw2]; exact blk_new u2 _ _ _ hkS2); have Sc2 := S2.cell; have T2 := below_then hB2 V2; have y2 := (ho.bs).below V2; have P2 := P1.below T2; have Pc2 := P2.cell; clear Pc1; have Z2 := Z1.below T2; have Zc2 := Z2.cell; clear Zc1; have Y2 := Y1.below T2; have Yc2 := Y2.cell; clear Yc1; have x2 := x1.below T2; have R2 := below_then R1 T2)
      | (go_at_call 69; ((with_reducible refine (he DA dn dc w2).mono ?_); rintro e w3 ⟨rfl, hB3⟩); have P3 := P2.below hB3; have Pc3 := P3.cell; clear Pc2; have Z3 := Z2.below hB3; have Zc3 := Z3.cell; clear Zc2; have Y3 := Y2.below hB3; have Yc3 := Y3.cell; clear Yc2; have S3 := S2.below hB3; have Sc3 := S3.cell; clear Sc2; have x3 := x2.below hB3; have y3 := y2.below hB3; have R3 := below_then R2 hB3)
      | (go_at_call 70; ((with_reducible refine (hq DA dn dc w3 y3).mono ?_); rintro e u4 ⟨C1, e1, f1, C2, e2, f2, rfl, kq1, kq2, ga, gb, hB4⟩); (obtain ⟨w4, hw4⟩ : ∃ W, u4.alloc (.cells #[.int .u8 (q).tos, .int .u16 (q).id, .bool (q).keep, .int .u8 (q).ttl, .int .u8 (q).proto, .int .u32 (q).src, .int .u32 (q).dst, .slice C1 e1 f1, .slice C2 e2 f2] 26) = W := ⟨_, rfl⟩); have V4 : Below u4.heap.size u4 w4 := (by rw [← hw4]; (repeat (first | with_reducible exact Below.refl _ _ | with_reducible refine below_drew ?_ | with_reducible refine below_drewN ?_ _ | with_reducible refine below_alloc ?_ (Nat.le_refl _) _ | with_reducible refine Below.setCell ?_ (by first | exact Nat.le_refl _ | (simp only []; omega)) _ | with_reducible assumption))); (obtain ⟨kG4, hkG4⟩ : ∃ k : Nat, u4.heap.size = k := ⟨_, rfl⟩); have G4 : Blk w4 kG4 #[.int .u8 (q).tos, .int .u16 (q).id, .bool (q).keep, .int .u8 (q).ttl, .int .u8 (q).proto, .int .u32 (q).src, .int .u32 (q).dst, .slice C1 e1 f1, .slice C2 e2 f2] 26 := (by rw [← hw4]; exact blk_new u4 _ _ _ hkG4); have Gc4 := G4.cell; have T4 := below_then hB4 V4; have a4 := (kq1).below V4; have z4 := (kq2).below V4; have P4 := P3.below T4; have Pc4 := P4.cell; clear Pc3; have Z4 := Z3.below T4; have Zc4 := Z4.cell; clear Zc3; have Y4 := Y3.below T4; have Yc4 := Y4.cell; clear Yc3; have S4 := S3.below T4; have Sc4 := S4.cell; clear Sc3; have x4 := x3.below T4; have y4 := y3.below T4; have R4 := below_then R3 T4; (obtain ⟨w5, hw5⟩ : ∃ W, w4.alloc (.cells #[.int .u8 q.proto, .int .u32 q.src, .int .u32 q.dst, .int .u16 0, .int .u16 0] 28) = W := ⟨_, rfl⟩); have V5 : Below w4.heap.size w4 w5 := (by rw [← hw5]; (repeat (first | with_reducible exact Below.refl _ _ | with_reducible refine below_drew ?_ | with_reducible refine below_drewN ?_ _ | with_reducible refine below_alloc ?_ (Nat.le_refl _) _ | with_reducible refine Below.setCell ?_ (by first | exact Nat.le_refl _ | (simp only []; omega)) _ | with_reducible assumption))); (obtain ⟨kX5, hkX5⟩ : ∃ k : Nat, w4.heap.size = k := ⟨_, rfl⟩); have X5 : Blk w5 kX5 #[.int .u8 q.proto, .int .u32 q.src, .int .u32 q.dst, .int .u16 0, .int .u16 0] 28 := (by rw [← hw5]; exact blk_new w4 _ _ _ hkX5); have Xc5 := X5.cell; have P5 := P4.below V5; have Pc5 := P5.cell; have Z5 := Z4.below V5; have Zc5 := Z5.cell; have Y5 := Y4.below V5; have Yc5 := Y5.cell; have S5 := S4.below V5; have Sc5 := S5.cell; have G5 := G4.below V5; have Gc5 := G5.cell; have x5 := x4.below V5; have y5 := y4.below V5; have a5 := a4.below V5; have z5 := z4.below V5; have R5 := below_then R4 V5; have i3 : w5.setCell ⟨kX5, 3, none⟩ (.int .u16 0) = w5 := X5.idle rfl; have i4 : w5.setCell ⟨kX5, 4, none⟩ (.int .u16 0) = w5 := X5.idle rfl)
      | (go_at_call 56; ((with_reducible refine (cb C2 e2 f2 w5 z5).mono ?_); rintro e w6 ⟨rfl, hB6⟩); have P6 := P5.below hB6; have Pc6 := P6.cell; clear Pc5; have Z6 := Z5.below hB6; have Zc6 := Z6.cell; clear Zc5; have Y6 := Y5.below hB6; have Yc6 := Y6.cell; clear Yc5; have S6 := S5.below hB6; have Sc6 := S6.cell; clear Sc5; have G6 := G5.below hB6; have Gc6 := G6.cell; clear Gc5; have X6 := X5.below hB6; have Xc6 := X6.cell; clear Xc5; have x6 := x5.below hB6; have y6 := y5.below hB6; have a6 := a5.below hB6; have z6 := z5.below hB6; have R6 := below_then R5 hB6))
    obtain ⟨wf, hwf, Sf⟩ := store9 Z6 (.int .u8 0) (.int .u16 0) (.bool false) (.int .u8 0) (.int .u8 0) (.int .u32 0) (.int .u32 0) (.slice none 0 0) (.slice none 0 0)
    have Yf := Sf.other (by omega) Y6
    obtain ⟨wg, hwg, Sg⟩ := store5 Yf (.int .u8 0) (.int .u32 0) (.int .u32 0) (.int .u16 0) (.int .u16 0)
    rw [hwf, hwg]
    have Zg := Sg.other (by omega) Sf.blk
    have pf := Zg.cell
    have pg := Sg.blk.cell
    exact bodyPost_ret (v := .tuple #[.agg #[.int .u8 0, .int .u16 0, .bool false, .int .u8 0, .int .u8 0, .int .u32 0, .int .u32 0, .slice none 0 0, .slice none 0 0], .agg #[.int .u8 0, .int .u32 0, .int .u32 0, .int .u16 0, .int .u16 0], .int .i64 4]) (by simp [results, Try.results39, go_sem, pf, pg]) rfl ⟨none, 0, 0, none, 0, 0, rfl, Bs.none_ _, Bs.none_ _, Sg.bel (Sf.bel R6 (by omega)) (by omega)⟩

  · rw [if_neg (by decide), if_neg (by decide), if_neg (by decide)]
    go_enter Try.func39, Try.ntmps39
    go_wp2_with (first
      | (go_at_call 16; ((with_reducible refine (ht w1 x1).mono ?_); rintro e u2 ⟨⟨DA, dn, dc, rfl, ho, hB2⟩⟩); (obtain ⟨w2, hw2⟩ : ∃ W, u2.alloc (.cells #[.int .u8 (s).ty, .int .u8 (s).code, .int .u32 (s).rest, .slice DA dn dc] 42) = W := ⟨_, rfl⟩); have V2 : Below u2.heap.size u2 w2 := (by rw [← hw2]; (repeat (first | with_reducible exact Below.refl _ _ | with_reducible refine below_drew ?_ | with_reducible refine below_drewN ?_ _ | with_reducible refine below_alloc ?_ (Nat.le_refl _) _ | with_reducible refine Below.setCell ?_ (by first | exact Nat.le_refl _ | (simp only []; omega)) _ | with_reducible assumption))); (obtain ⟨kS2, hkS2⟩ : ∃ k : Nat, u2.heap.size = k := ⟨_, rfl⟩); have S2 : Blk w2 kS2 #[.int .u8 (s).ty, .int .u8 (s).code, .int .u32 (s).rest, .slice DA dn dc] 42 := (by rw [← hw2]; exact blk_new u2 _ _ _ hkS2); have Sc2 := S2.cell; have T2 := below_then hB2 V2; have y2 := (ho.bs).below V2; have P2 := P1.below T2; have Pc2 := P2.cell; clear Pc1; have Z2 := Z1.below T2; have Zc2 := Z2.cell; clear Zc1; have Y2 := Y1.below T2; have Yc2 := Y2.cell; clear Yc1; have x2 := x1.below T2; have R2 := below_then R1 T2)
      | (go_at_call 69; ((with_reducible refine (he DA dn dc w2).mono ?_); rintro e w3 ⟨rfl, hB3⟩); have P3 := P2.below hB3; have Pc3 := P3.cell; clear Pc2; have Z3 := Z2.below hB3; have Zc3 := Z3.cell; clear Zc2; have Y3 := Y2.below hB3; have Yc3 := Y3.cell; clear Yc2; have S3 := S2.below hB3; have Sc3 := S3.cell; clear Sc2; have x3 := x2.below hB3; have y3 := y2.below hB3; have R3 := below_then R2 hB3)
      | (go_at_call 70; ((with_reducible refine (hq DA dn dc w3 y3).mono ?_); rintro e u4 ⟨C1, e1, f1, C2, e2, f2, rfl, kq1, kq2, ga, gb, hB4⟩); (obtain ⟨w4, hw4⟩ : ∃ W, u4.alloc (.cells #[.int .u8 (q).tos, .int .u16 (q).id, .bool (q).keep, .int .u8 (q).ttl, .int .u8 (q).proto, .int .u32 (q).src, .int .u32 (q).dst, .slice C1 e1 f1, .slice C2 e2 f2] 26) = W := ⟨_, rfl⟩); have V4 : Below u4.heap.size u4 w4 := (by rw [← hw4]; (repeat (first | with_reducible exact Below.refl _ _ | with_reducible refine below_drew ?_ | with_reducible refine below_drewN ?_ _ | with_reducible refine below_alloc ?_ (Nat.le_refl _) _ | with_reducible refine Below.setCell ?_ (by first | exact Nat.le_refl _ | (simp only []; omega)) _ | with_reducible assumption))); (obtain ⟨kG4, hkG4⟩ : ∃ k : Nat, u4.heap.size = k := ⟨_, rfl⟩); have G4 : Blk w4 kG4 #[.int .u8 (q).tos, .int .u16 (q).id, .bool (q).keep, .int .u8 (q).ttl, .int .u8 (q).proto, .int .u32 (q).src, .int .u32 (q).dst, .slice C1 e1 f1, .slice C2 e2 f2] 26 := (by rw [← hw4]; exact blk_new u4 _ _ _ hkG4); have Gc4 := G4.cell; have T4 := below_then hB4 V4; have a4 := (kq1).below V4; have z4 := (kq2).below V4; have P4 := P3.below T4; have Pc4 := P4.cell; clear Pc3; have Z4 := Z3.below T4; have Zc4 := Z4.cell; clear Zc3; have Y4 := Y3.below T4; have Yc4 := Y4.cell; clear Yc3; have S4 := S3.below T4; have Sc4 := S4.cell; clear Sc3; have x4 := x3.below T4; have y4 := y3.below T4; have R4 := below_then R3 T4; (obtain ⟨w5, hw5⟩ : ∃ W, w4.alloc (.cells #[.int .u8 q.proto, .int .u32 q.src, .int .u32 q.dst, .int .u16 0, .int .u16 0] 28) = W := ⟨_, rfl⟩); have V5 : Below w4.heap.size w4 w5 := (by rw [← hw5]; (repeat (first | with_reducible exact Below.refl _ _ | with_reducible refine below_drew ?_ | with_reducible refine below_drewN ?_ _ | with_reducible refine below_alloc ?_ (Nat.le_refl _) _ | with_reducible refine Below.setCell ?_ (by first | exact Nat.le_refl _ | (simp only []; omega)) _ | with_reducible assumption))); (obtain ⟨kX5, hkX5⟩ : ∃ k : Nat, w4.heap.size = k := ⟨_, rfl⟩); have X5 : Blk w5 kX5 #[.int .u8 q.proto, .int .u32 q.src, .int .u32 q.dst, .int .u16 0, .int .u16 0] 28 := (by rw [← hw5]; exact blk_new w4 _ _ _ hkX5); have Xc5 := X5.cell; have P5 := P4.below V5; have Pc5 := P5.cell; have Z5 := Z4.below V5; have Zc5 := Z5.cell; have Y5 := Y4.below V5; have Yc5 := Y5.cell; have S5 := S4.below V5; have Sc5 := S5.cell; have G5 := G4.below V5; have Gc5 := G5.cell; have x5 := x4.below V5; have y5 := y4.below V5; have a5 := a4.below V5; have z5 := z4.below V5; have R5 := below_then R4 V5; have i3 : w5.setCell ⟨kX5, 3, none⟩ (.int .u16 0) = w5 := X5.idle rfl; have i4 : w5.setCell ⟨kX5, 4, none⟩ (.int .u16 0) = w5 := X5.idle rfl)
      | (go_at_call 56; ((with_reducible refine (cb C2 e2 f2 w5 z5).mono ?_); rintro e w6 ⟨rfl, hB6⟩); have P6 := P5.below hB6; have Pc6 := P6.cell; clear Pc5; have Z6 := Z5.below hB6; have Zc6 := Z6.cell; clear Zc5; have Y6 := Y5.below hB6; have Yc6 := Y6.cell; clear Yc5; have S6 := S5.below hB6; have Sc6 := S6.cell; clear Sc5; have G6 := G5.below hB6; have Gc6 := G6.cell; clear Gc5; have X6 := X5.below hB6; have Xc6 := X6.cell; clear Xc5; have x6 := x5.below hB6; have y6 := y5.below hB6; have a6 := a5.below hB6; have z6 := z5.below hB6; have R6 := below_then R5 hB6)
      | (go_at_call 55; ((with_reducible refine (cg0 C2 e2 f2 w6 z6).mono ?_); rintro e w7 ⟨rfl, hD7⟩); have hB7 := hD7.bel; have P7 := P6.below hB7; have Pc7 := P7.cell; clear Pc6; have Z7 := Z6.below hB7; have Zc7 := Z7.cell; clear Zc6; have Y7 := Y6.below hB7; have Yc7 := Y7.cell; clear Yc6; have S7 := S6.below hB7; have Sc7 := S7.cell; clear Sc6; have G7 := G6.below hB7; have Gc7 := G7.cell; clear Gc6; have X7 := X6.below hB7; have Xc7 := X7.cell; clear Xc6; have x7 := x6.below hB7; have y7 := y6.below hB7; have a7 := a6.below hB7; have z7 := z6.below hB7; have R7 := below_then R6 hB7; (obtain ⟨w9, hw9, S9⟩ := store4_ X7 (.int .u16 g0)); have B9 := S9.bel (below_then V5 (below_then hB6 hB7)) (by omega); have G9 := G4.below B9; have Gc9 := G9.cell; have Z9 := Z4.below B9; have Zc9 := Z9.cell; have Y9 := Y4.below B9; have Yc9 := Y9.cell; have a9 := a4.below B9; have z9 := z4.below B9; have R9 := below_then R4 B9; have X9 := S9.blk; have Xc9 := X9.cell))
    have y3 := Y3.lt
    have y4 := Y4.lt
    obtain ⟨wf, hwf, Sf⟩ := store9 Z9 (.int .u8 q.tos) (.int .u16 q.id) (.bool q.keep) (.int .u8 q.ttl) (.int .u8 q.proto) (.int .u32 q.src) (.int .u32 q.dst) (.slice C1 e1 f1) (.slice C2 e2 f2)
    have Yf := Sf.other (by omega) Y9
    have Yfc := Yf.cell
    have Xf := Sf.other (by omega) X9
    have Xfc := Xf.cell
    obtain ⟨wg, hwg, Sg⟩ : ∃ wg, (((((wf.setCell ⟨k + 1 + 1, 0, none⟩ (.int .u8 q.proto)).setCell ⟨k + 1 + 1, 1, none⟩ (.int .u32 q.src)).setCell ⟨k + 1 + 1, 2, none⟩ (.int .u32 q.dst)).setCell ⟨k + 1 + 1, 3, none⟩ (.int .u16 0)).setCell ⟨k + 1 + 1, 4, none⟩ (.int .u16 g0)).drew = wg ∧ Sto wf (k + 1 + 1) wg #[.int .u8 q.proto, .int .u32 q.src, .int .u32 q.dst, .int .u16 0, .int .u16 g0] 28 := ⟨_, rfl, by
      obtain ⟨wh, hwh, Sh⟩ := store5 Yf (.int .u8 q.proto) (.int .u32 q.src) (.int .u32 q.dst) (.int .u16 0) (.int .u16 g0)
      rw [hwh]
      exact Sh.drew⟩
    have Zg := Sg.other (by omega) Sf.blk
    have pf := Zg.cell
    have pg := Sg.blk.cell
    have ka := Sg.bs (Sf.bs a9 (fun x h => by have := ga x h; omega)) (fun x h => by have := ga x h; omega)
    have kb := Sg.bs (Sf.bs z9 (fun x h => by have := gb x h; omega)) (fun x h => by have := gb x h; omega)
    have RG := Sg.bel (Sf.bel R9 (by omega)) (by omega)
    clear Xf Yf Sf Sg Zg X9 Y9 Z9 G9 a9 z9
    go_region
    go_wp2_with fail
    exact bodyPost_ret (v := .tuple #[(.agg #[.int .u8 (q).tos, .int .u16 (q).id, .bool (q).keep, .int .u8 (q).ttl, .int .u8 (q).proto, .int .u32 (q).src, .int .u32 (q).dst, .slice C1 e1 f1, .slice C2 e2 f2]), (.agg #[.int .u8 ((⟨q.proto, q.src, q.dst, 0, g0⟩ : Tup)).proto, .int .u32 ((⟨q.proto, q.src, q.dst, 0, g0⟩ : Tup)).src, .int .u32 ((⟨q.proto, q.src, q.dst, 0, g0⟩ : Tup)).dst, .int .u16 ((⟨q.proto, q.src, q.dst, 0, g0⟩ : Tup)).sp, .int .u16 ((⟨q.proto, q.src, q.dst, 0, g0⟩ : Tup)).dp]), .int .i64 0]) (by simp [results, Try.results39, go_sem, pf, pg]) rfl ⟨C1, e1, f1, C2, e2, f2, rfl, ka, kb, RG⟩

theorem inn_icmp (p : Pkt) (A1 : Option Addr) (n1 c1 : Nat) (A2 : Option Addr) (n2 c2 : Nat) (w : World) (k2 : Bs w A2 n2 c2 p.dat) (h1 : (p.proto != 1) = false) (s : Msg)  (ht : ∀ W, Bs W A2 n2 c2 p.dat → Calls Try.prog 16 #[(.agg #[.int .u8 (p).tos, .int .u16 (p).id, .bool (p).keep, .int .u8 (p).ttl, .int .u8 (p).proto, .int .u32 (p).src, .int .u32 (p).dst, .slice A1 n1 c1, .slice A2 n2 c2])] W (MsPost W s 0))  (he : ∀ B b1 b2 W, Calls Try.prog 69 #[(.agg #[.int .u8 (s).ty, .int .u8 (s).code, .int .u32 (s).rest, .slice B b1 b2])] W fun e w' => e = .returned (.bool true) ∧ Below W.heap.size W w') (q : Pkt)  (hq : ∀ B b1 b2 W, Bs W B b1 b2 s.dat → Calls Try.prog 70 #[.slice B b1 b2] W fun e w' => ∃ C1 e1 f1 C2 e2 f2, e = .returned (.tuple #[(.agg #[.int .u8 (q).tos, .int .u16 (q).id, .bool (q).keep, .int .u8 (q).ttl, .int .u8 (q).proto, .int .u32 (q).src, .int .u32 (q).dst, .slice C1 e1 f1, .slice C2 e2 f2]), .int .i64 0]) ∧ Bs w' C1 e1 f1 q.opt ∧ Bs w' C2 e2 f2 q.dat ∧ (∀ a, C1 = some a → W.heap.size ≤ a.block) ∧ (∀ a, C2 = some a → W.heap.size ≤ a.block) ∧ Below W.heap.size W w') (hpr : q.proto = 1) (h8 : 8 ≤ q.dat.length) :
    Calls Try.prog 39 #[(.agg #[.int .u8 (p).tos, .int .u16 (p).id, .bool (p).keep, .int .u8 (p).ttl, .int .u8 (p).proto, .int .u32 (p).src, .int .u32 (p).dst, .slice A1 n1 c1, .slice A2 n2 c2])] w (InPost w (if qEch q.dat = false then zP else q) (if qEch q.dat = false then zT else ⟨q.proto, q.src, q.dst, get16 q.dat 4, get16 q.dat 4⟩) (if qEch q.dat = false then 12 else 0)) := by
  have hn6 : (q.proto == 6) = false := by rw [hpr]; rfl
  have hn17 : (q.proto == 17) = false := by rw [hpr]; rfl
  have y1 : (q.proto == 1) = true := by rw [hpr]; rfl
  clear hpr
  have cg0 := fun A n c W h => rget16_any A n c q.dat 4 W h
  obtain ⟨b0, hb0⟩ : ∃ b, bt q.dat 0 = b := ⟨_, rfl⟩
  obtain ⟨b1, hb1⟩ : ∃ b, bt q.dat 1 = b := ⟨_, rfl⟩
  have hcell : ∀ W A n c, Bs W A n c q.dat → ∃ bb off, A = some ⟨bb, off, none⟩ ∧ 1 < n ∧ W.cell? ⟨bb, off, none⟩ = some (.int .u8 b0) ∧ W.cell? ⟨bb, off + 1, none⟩ = some (.int .u8 b1) := fun W A n c h => by
    have hl := h.len
    obtain ⟨bb, off, rfl⟩ := h.some_ (by omega)
    have bo := h.at_ (j := 0) (by omega)
    rw [Nat.add_zero, hb0] at bo
    have bp := h.at_ (j := 1) (by omega)
    rw [hb1] at bp
    exact ⟨bb, off, rfl, by omega, bo, bp⟩
  have hz : qEch q.dat = ((b0 == 8 || b0 == 0) && b1 == 0) := by unfold qEch isEchoM; rw [hb0, hb1]
  obtain ⟨g0, hg0⟩ : ∃ g, get16 q.dat 4 = g := ⟨_, rfl⟩
  rw [hg0] at cg0
  rw [hg0, hz]
  have ways : ((b0 != 8) = true ∧ (b0 != 0) = true ∧ ((b0 == 8 || b0 == 0) && b1 == 0) = false) ∨ ((b0 != 8) = false ∧ (b1 != 0) = true ∧ ((b0 == 8 || b0 == 0) && b1 == 0) = false) ∨ ((b0 != 8) = true ∧ (b0 != 0) = false ∧ (b1 != 0) = true ∧ ((b0 == 8 || b0 == 0) && b1 == 0) = false) ∨
      ((b0 != 8) = false ∧ (b1 != 0) = false ∧ ((b0 == 8 || b0 == 0) && b1 == 0) = true) ∨ ((b0 != 8) = true ∧ (b0 != 0) = false ∧ (b1 != 0) = false ∧ ((b0 == 8 || b0 == 0) && b1 == 0) = true) := by
    by_cases h1 : b0 = 8 <;> by_cases h2 : b0 = 0 <;> by_cases h3 : b1 = 0 <;> simp [h1, h2, h3]
  clear hg0 hb0 hb1 hz h8
  obtain ⟨k, hk⟩ : ∃ k : Nat, w.heap.size = k := ⟨_, rfl⟩
  obtain ⟨w1, hw1⟩ : ∃ W, (((w.alloc (.cells #[.int .u8 (p).tos, .int .u16 (p).id, .bool (p).keep, .int .u8 (p).ttl, .int .u8 (p).proto, .int .u32 (p).src, .int .u32 (p).dst, .slice A1 n1 c1, .slice A2 n2 c2] 26)).alloc (.cells #[.int .u8 0, .int .u16 0, .bool false, .int .u8 0, .int .u8 0, .int .u32 0, .int .u32 0, .slice none 0 0, .slice none 0 0] 26)).alloc (.cells #[.int .u8 0, .int .u32 0, .int .u32 0, .int .u16 0, .int .u16 0] 28)) = W := ⟨_, rfl⟩
  have P1 : Blk w1 k #[.int .u8 (p).tos, .int .u16 (p).id, .bool (p).keep, .int .u8 (p).ttl, .int .u8 (p).proto, .int .u32 (p).src, .int .u32 (p).dst, .slice A1 n1 c1, .slice A2 n2 c2] 26 := by rw [← hw1]; exact (((blk_new _ _ _ k (by simp [hk])).alloc _).alloc _)
  have Z1 : Blk w1 (k + 1) #[.int .u8 0, .int .u16 0, .bool false, .int .u8 0, .int .u8 0, .int .u32 0, .int .u32 0, .slice none 0 0, .slice none 0 0] 26 := by rw [← hw1]; exact ((blk_new _ _ _ (k + 1) (by simp [hk])).alloc _)
  have Y1 : Blk w1 (k + 1 + 1) #[.int .u8 0, .int .u32 0, .int .u32 0, .int .u16 0, .int .u16 0] 28 := by rw [← hw1]; exact (blk_new _ _ _ (k + 1 + 1) (by simp [hk]))
  have R1 : Below w.heap.size w w1 := by rw [← hw1]; (repeat (first | with_reducible exact Below.refl _ _ | with_reducible refine below_drew ?_ | with_reducible refine below_drewN ?_ _ | with_reducible refine below_alloc ?_ (Nat.le_refl _) _ | with_reducible refine Below.setCell ?_ (by first | exact Nat.le_refl _ | (simp only []; omega)) _ | with_reducible assumption))
  have Pc1 := P1.cell
  have Zc1 := Z1.cell
  have Yc1 := Y1.cell
  have Pl1 := P1.lt
  have Zl1 := Z1.lt
  have Yl1 := Y1.lt
  have x1 := (k2).below R1
  have hxe : 0 < w.heap.size + 1 := by omega
  rcases ways with ⟨t1, t2, t3⟩ | ⟨t1, t2, t3⟩ | ⟨t1, t2, t4, t3⟩ | ⟨t1, t2, t3⟩ | ⟨t1, t2, t4, t3⟩
  · rw [t3, if_pos rfl, if_pos rfl, if_pos rfl]
    clear t3
    go_enter Try.func39, Try.ntmps39
    go_wp2_with (first
      | (go_at_call 16; ((with_reducible refine (ht w1 x1).mono ?_); rintro e u2 ⟨⟨DA, dn, dc, rfl, ho, hB2⟩⟩); (obtain ⟨w2, hw2⟩ : ∃ W, u2.alloc (.cells #[.int .u8 (s).ty, .int .u8 (s).code, .int .u32 (s).rest, .slice DA dn dc] 42) = W := ⟨_, rfl⟩); have V2 : Below u2.heap.size u2 w2 := (by rw [← hw2]; (repeat (first | with_reducible exact Below.refl _ _ | with_reducible refine below_drew ?_ | with_reducible refine below_drewN ?_ _ | with_reducible refine below_alloc ?_ (Nat.le_refl _) _ | with_reducible refine Below.setCell ?_ (by first | exact Nat.le_refl _ | (simp only []; omega)) _ | with_reducible assumption))); (obtain ⟨kS2, hkS2⟩ : ∃ k : Nat, u2.heap.size = k := ⟨_, rfl⟩); have S2 : Blk w2 kS2 #[.int .u8 (s).ty, .int .u8 (s).code, .int .u32 (s).rest, .slice DA dn dc] 42 := (by rw [← hw2]; exact blk_new u2 _ _ _ hkS2); have Sc2 := S2.cell; have T2 := below_then hB2 V2; have y2 := (ho.bs).below V2; have P2 := P1.below T2; have Pc2 := P2.cell; clear Pc1; have Z2 := Z1.below T2; have Zc2 := Z2.cell; clear Zc1; have Y2 := Y1.below T2; have Yc2 := Y2.cell; clear Yc1; have x2 := x1.below T2; have R2 := below_then R1 T2)
      | (go_at_call 69; ((with_reducible refine (he DA dn dc w2).mono ?_); rintro e w3 ⟨rfl, hB3⟩); have P3 := P2.below hB3; have Pc3 := P3.cell; clear Pc2; have Z3 := Z2.below hB3; have Zc3 := Z3.cell; clear Zc2; have Y3 := Y2.below hB3; have Yc3 := Y3.cell; clear Yc2; have S3 := S2.below hB3; have Sc3 := S3.cell; clear Sc2; have x3 := x2.below hB3; have y3 := y2.below hB3; have R3 := below_then R2 hB3)
      | (go_at_call 70; ((with_reducible refine (hq DA dn dc w3 y3).mono ?_); rintro e u4 ⟨C1, e1, f1, C2, e2, f2, rfl, kq1, kq2, ga, gb, hB4⟩); (obtain ⟨w4, hw4⟩ : ∃ W, u4.alloc (.cells #[.int .u8 (q).tos, .int .u16 (q).id, .bool (q).keep, .int .u8 (q).ttl, .int .u8 (q).proto, .int .u32 (q).src, .int .u32 (q).dst, .slice C1 e1 f1, .slice C2 e2 f2] 26) = W := ⟨_, rfl⟩); have V4 : Below u4.heap.size u4 w4 := (by rw [← hw4]; (repeat (first | with_reducible exact Below.refl _ _ | with_reducible refine below_drew ?_ | with_reducible refine below_drewN ?_ _ | with_reducible refine below_alloc ?_ (Nat.le_refl _) _ | with_reducible refine Below.setCell ?_ (by first | exact Nat.le_refl _ | (simp only []; omega)) _ | with_reducible assumption))); (obtain ⟨kG4, hkG4⟩ : ∃ k : Nat, u4.heap.size = k := ⟨_, rfl⟩); have G4 : Blk w4 kG4 #[.int .u8 (q).tos, .int .u16 (q).id, .bool (q).keep, .int .u8 (q).ttl, .int .u8 (q).proto, .int .u32 (q).src, .int .u32 (q).dst, .slice C1 e1 f1, .slice C2 e2 f2] 26 := (by rw [← hw4]; exact blk_new u4 _ _ _ hkG4); have Gc4 := G4.cell; have T4 := below_then hB4 V4; have a4 := (kq1).below V4; have z4 := (kq2).below V4; have P4 := P3.below T4; have Pc4 := P4.cell; clear Pc3; have Z4 := Z3.below T4; have Zc4 := Z4.cell; clear Zc3; have Y4 := Y3.below T4; have Yc4 := Y4.cell; clear Yc3; have S4 := S3.below T4; have Sc4 := S4.cell; clear Sc3; have x4 := x3.below T4; have y4 := y3.below T4; have R4 := below_then R3 T4; (obtain ⟨w5, hw5⟩ : ∃ W, w4.alloc (.cells #[.int .u8 q.proto, .int .u32 q.src, .int .u32 q.dst, .int .u16 0, .int .u16 0] 28) = W := ⟨_, rfl⟩); have V5 : Below w4.heap.size w4 w5 := (by rw [← hw5]; (repeat (first | with_reducible exact Below.refl _ _ | with_reducible refine below_drew ?_ | with_reducible refine below_drewN ?_ _ | with_reducible refine below_alloc ?_ (Nat.le_refl _) _ | with_reducible refine Below.setCell ?_ (by first | exact Nat.le_refl _ | (simp only []; omega)) _ | with_reducible assumption))); (obtain ⟨kX5, hkX5⟩ : ∃ k : Nat, w4.heap.size = k := ⟨_, rfl⟩); have X5 : Blk w5 kX5 #[.int .u8 q.proto, .int .u32 q.src, .int .u32 q.dst, .int .u16 0, .int .u16 0] 28 := (by rw [← hw5]; exact blk_new w4 _ _ _ hkX5); have Xc5 := X5.cell; have P5 := P4.below V5; have Pc5 := P5.cell; have Z5 := Z4.below V5; have Zc5 := Z5.cell; have Y5 := Y4.below V5; have Yc5 := Y5.cell; have S5 := S4.below V5; have Sc5 := S5.cell; have G5 := G4.below V5; have Gc5 := G5.cell; have x5 := x4.below V5; have y5 := y4.below V5; have a5 := a4.below V5; have z5 := z4.below V5; have R5 := below_then R4 V5; have i3 : w5.setCell ⟨kX5, 3, none⟩ (.int .u16 0) = w5 := X5.idle rfl; have i4 : w5.setCell ⟨kX5, 4, none⟩ (.int .u16 0) = w5 := X5.idle rfl; (obtain ⟨bb, off, rfl, q1, h0c, h1c⟩ := hcell _ _ _ _ z5); have q0 : 0 < e2 := (by omega); have q0' : (0 : Int) < e2 := (by omega); have q1' : (1 : Int) < e2 := (by omega)))
    obtain ⟨wf, hwf, Sf⟩ := store9 Z5 (.int .u8 0) (.int .u16 0) (.bool false) (.int .u8 0) (.int .u8 0) (.int .u32 0) (.int .u32 0) (.slice none 0 0) (.slice none 0 0)
    have Yf := Sf.other (by omega) Y5
    obtain ⟨wg, hwg, Sg⟩ := store5 Yf (.int .u8 0) (.int .u32 0) (.int .u32 0) (.int .u16 0) (.int .u16 0)
    rw [hwf, hwg]
    have Zg := Sg.other (by omega) Sf.blk
    have pf := Zg.cell
    have pg := Sg.blk.cell
    exact bodyPost_ret (v := .tuple #[.agg #[.int .u8 0, .int .u16 0, .bool false, .int .u8 0, .int .u8 0, .int .u32 0, .int .u32 0, .slice none 0 0, .slice none 0 0], .agg #[.int .u8 0, .int .u32 0, .int .u32 0, .int .u16 0, .int .u16 0], .int .i64 12]) (by simp [results, Try.results39, go_sem, pf, pg]) rfl ⟨none, 0, 0, none, 0, 0, rfl, Bs.none_ _, Bs.none_ _, Sg.bel (Sf.bel R5 (by omega)) (by omega)⟩

  · rw [t3, if_pos rfl, if_pos rfl, if_pos rfl]
    clear t3
    go_enter Try.func39, Try.ntmps39
    go_wp2_with (first
      | (go_at_call 16; ((with_reducible refine (ht w1 x1).mono ?_); rintro e u2 ⟨⟨DA, dn, dc, rfl, ho, hB2⟩⟩); (obtain ⟨w2, hw2⟩ : ∃ W, u2.alloc (.cells #[.int .u8 (s).ty, .int .u8 (s).code, .int .u32 (s).rest, .slice DA dn dc] 42) = W := ⟨_, rfl⟩); have V2 : Below u2.heap.size u2 w2 := (by rw [← hw2]; (repeat (first | with_reducible exact Below.refl _ _ | with_reducible refine below_drew ?_ | with_reducible refine below_drewN ?_ _ | with_reducible refine below_alloc ?_ (Nat.le_refl _) _ | with_reducible refine Below.setCell ?_ (by first | exact Nat.le_refl _ | (simp only []; omega)) _ | with_reducible assumption))); (obtain ⟨kS2, hkS2⟩ : ∃ k : Nat, u2.heap.size = k := ⟨_, rfl⟩); have S2 : Blk w2 kS2 #[.int .u8 (s).ty, .int .u8 (s).code, .int .u32 (s).rest, .slice DA dn dc] 42 := (by rw [← hw2]; exact blk_new u2 _ _ _ hkS2); have Sc2 := S2.cell; have T2 := below_then hB2 V2; have y2 := (ho.bs).below V2; have P2 := P1.below T2; have Pc2 := P2.cell; clear Pc1; have Z2 := Z1.below T2; have Zc2 := Z2.cell; clear Zc1; have Y2 := Y1.below T2; have Yc2 := Y2.cell; clear Yc1; have x2 := x1.below T2; have R2 := below_then R1 T2)
      | (go_at_call 69; ((with_reducible refine (he DA dn dc w2).mono ?_); rintro e w3 ⟨rfl, hB3⟩); have P3 := P2.below hB3; have Pc3 := P3.cell; clear Pc2; have Z3 := Z2.below hB3; have Zc3 := Z3.cell; clear Zc2; have Y3 := Y2.below hB3; have Yc3 := Y3.cell; clear Yc2; have S3 := S2.below hB3; have Sc3 := S3.cell; clear Sc2; have x3 := x2.below hB3; have y3 := y2.below hB3; have R3 := below_then R2 hB3)
      | (go_at_call 70; ((with_reducible refine (hq DA dn dc w3 y3).mono ?_); rintro e u4 ⟨C1, e1, f1, C2, e2, f2, rfl, kq1, kq2, ga, gb, hB4⟩); (obtain ⟨w4, hw4⟩ : ∃ W, u4.alloc (.cells #[.int .u8 (q).tos, .int .u16 (q).id, .bool (q).keep, .int .u8 (q).ttl, .int .u8 (q).proto, .int .u32 (q).src, .int .u32 (q).dst, .slice C1 e1 f1, .slice C2 e2 f2] 26) = W := ⟨_, rfl⟩); have V4 : Below u4.heap.size u4 w4 := (by rw [← hw4]; (repeat (first | with_reducible exact Below.refl _ _ | with_reducible refine below_drew ?_ | with_reducible refine below_drewN ?_ _ | with_reducible refine below_alloc ?_ (Nat.le_refl _) _ | with_reducible refine Below.setCell ?_ (by first | exact Nat.le_refl _ | (simp only []; omega)) _ | with_reducible assumption))); (obtain ⟨kG4, hkG4⟩ : ∃ k : Nat, u4.heap.size = k := ⟨_, rfl⟩); have G4 : Blk w4 kG4 #[.int .u8 (q).tos, .int .u16 (q).id, .bool (q).keep, .int .u8 (q).ttl, .int .u8 (q).proto, .int .u32 (q).src, .int .u32 (q).dst, .slice C1 e1 f1, .slice C2 e2 f2] 26 := (by rw [← hw4]; exact blk_new u4 _ _ _ hkG4); have Gc4 := G4.cell; have T4 := below_then hB4 V4; have a4 := (kq1).below V4; have z4 := (kq2).below V4; have P4 := P3.below T4; have Pc4 := P4.cell; clear Pc3; have Z4 := Z3.below T4; have Zc4 := Z4.cell; clear Zc3; have Y4 := Y3.below T4; have Yc4 := Y4.cell; clear Yc3; have S4 := S3.below T4; have Sc4 := S4.cell; clear Sc3; have x4 := x3.below T4; have y4 := y3.below T4; have R4 := below_then R3 T4; (obtain ⟨w5, hw5⟩ : ∃ W, w4.alloc (.cells #[.int .u8 q.proto, .int .u32 q.src, .int .u32 q.dst, .int .u16 0, .int .u16 0] 28) = W := ⟨_, rfl⟩); have V5 : Below w4.heap.size w4 w5 := (by rw [← hw5]; (repeat (first | with_reducible exact Below.refl _ _ | with_reducible refine below_drew ?_ | with_reducible refine below_drewN ?_ _ | with_reducible refine below_alloc ?_ (Nat.le_refl _) _ | with_reducible refine Below.setCell ?_ (by first | exact Nat.le_refl _ | (simp only []; omega)) _ | with_reducible assumption))); (obtain ⟨kX5, hkX5⟩ : ∃ k : Nat, w4.heap.size = k := ⟨_, rfl⟩); have X5 : Blk w5 kX5 #[.int .u8 q.proto, .int .u32 q.src, .int .u32 q.dst, .int .u16 0, .int .u16 0] 28 := (by rw [← hw5]; exact blk_new w4 _ _ _ hkX5); have Xc5 := X5.cell; have P5 := P4.below V5; have Pc5 := P5.cell; have Z5 := Z4.below V5; have Zc5 := Z5.cell; have Y5 := Y4.below V5; have Yc5 := Y5.cell; have S5 := S4.below V5; have Sc5 := S5.cell; have G5 := G4.below V5; have Gc5 := G5.cell; have x5 := x4.below V5; have y5 := y4.below V5; have a5 := a4.below V5; have z5 := z4.below V5; have R5 := below_then R4 V5; have i3 : w5.setCell ⟨kX5, 3, none⟩ (.int .u16 0) = w5 := X5.idle rfl; have i4 : w5.setCell ⟨kX5, 4, none⟩ (.int .u16 0) = w5 := X5.idle rfl; (obtain ⟨bb, off, rfl, q1, h0c, h1c⟩ := hcell _ _ _ _ z5); have q0 : 0 < e2 := (by omega); have q0' : (0 : Int) < e2 := (by omega); have q1' : (1 : Int) < e2 := (by omega)))
    obtain ⟨wf, hwf, Sf⟩ := store9 Z5 (.int .u8 0) (.int .u16 0) (.bool false) (.int .u8 0) (.int .u8 0) (.int .u32 0) (.int .u32 0) (.slice none 0 0) (.slice none 0 0)
    have Yf := Sf.other (by omega) Y5
    obtain ⟨wg, hwg, Sg⟩ := store5 Yf (.int .u8 0) (.int .u32 0) (.int .u32 0) (.int .u16 0) (.int .u16 0)
    rw [hwf, hwg]
    have Zg := Sg.other (by omega) Sf.blk
    have pf := Zg.cell
    have pg := Sg.blk.cell
    exact bodyPost_ret (v := .tuple #[.agg #[.int .u8 0, .int .u16 0, .bool false, .int .u8 0, .int .u8 0, .int .u32 0, .int .u32 0, .slice none 0 0, .slice none 0 0], .agg #[.int .u8 0, .int .u32 0, .int .u32 0, .int .u16 0, .int .u16 0], .int .i64 12]) (by simp [results, Try.results39, go_sem, pf, pg]) rfl ⟨none, 0, 0, none, 0, 0, rfl, Bs.none_ _, Bs.none_ _, Sg.bel (Sf.bel R5 (by omega)) (by omega)⟩

  · rw [t3, if_pos rfl, if_pos rfl, if_pos rfl]
    clear t3
    go_enter Try.func39, Try.ntmps39
    go_wp2_with (first
      | (go_at_call 16; ((with_reducible refine (ht w1 x1).mono ?_); rintro e u2 ⟨⟨DA, dn, dc, rfl, ho, hB2⟩⟩); (obtain ⟨w2, hw2⟩ : ∃ W, u2.alloc (.cells #[.int .u8 (s).ty, .int .u8 (s).code, .int .u32 (s).rest, .slice DA dn dc] 42) = W := ⟨_, rfl⟩); have V2 : Below u2.heap.size u2 w2 := (by rw [← hw2]; (repeat (first | with_reducible exact Below.refl _ _ | with_reducible refine below_drew ?_ | with_reducible refine below_drewN ?_ _ | with_reducible refine below_alloc ?_ (Nat.le_refl _) _ | with_reducible refine Below.setCell ?_ (by first | exact Nat.le_refl _ | (simp only []; omega)) _ | with_reducible assumption))); (obtain ⟨kS2, hkS2⟩ : ∃ k : Nat, u2.heap.size = k := ⟨_, rfl⟩); have S2 : Blk w2 kS2 #[.int .u8 (s).ty, .int .u8 (s).code, .int .u32 (s).rest, .slice DA dn dc] 42 := (by rw [← hw2]; exact blk_new u2 _ _ _ hkS2); have Sc2 := S2.cell; have T2 := below_then hB2 V2; have y2 := (ho.bs).below V2; have P2 := P1.below T2; have Pc2 := P2.cell; clear Pc1; have Z2 := Z1.below T2; have Zc2 := Z2.cell; clear Zc1; have Y2 := Y1.below T2; have Yc2 := Y2.cell; clear Yc1; have x2 := x1.below T2; have R2 := below_then R1 T2)
      | (go_at_call 69; ((with_reducible refine (he DA dn dc w2).mono ?_); rintro e w3 ⟨rfl, hB3⟩); have P3 := P2.below hB3; have Pc3 := P3.cell; clear Pc2; have Z3 := Z2.below hB3; have Zc3 := Z3.cell; clear Zc2; have Y3 := Y2.below hB3; have Yc3 := Y3.cell; clear Yc2; have S3 := S2.below hB3; have Sc3 := S3.cell; clear Sc2; have x3 := x2.below hB3; have y3 := y2.below hB3; have R3 := below_then R2 hB3)
      | (go_at_call 70; ((with_reducible refine (hq DA dn dc w3 y3).mono ?_); rintro e u4 ⟨C1, e1, f1, C2, e2, f2, rfl, kq1, kq2, ga, gb, hB4⟩); (obtain ⟨w4, hw4⟩ : ∃ W, u4.alloc (.cells #[.int .u8 (q).tos, .int .u16 (q).id, .bool (q).keep, .int .u8 (q).ttl, .int .u8 (q).proto, .int .u32 (q).src, .int .u32 (q).dst, .slice C1 e1 f1, .slice C2 e2 f2] 26) = W := ⟨_, rfl⟩); have V4 : Below u4.heap.size u4 w4 := (by rw [← hw4]; (repeat (first | with_reducible exact Below.refl _ _ | with_reducible refine below_drew ?_ | with_reducible refine below_drewN ?_ _ | with_reducible refine below_alloc ?_ (Nat.le_refl _) _ | with_reducible refine Below.setCell ?_ (by first | exact Nat.le_refl _ | (simp only []; omega)) _ | with_reducible assumption))); (obtain ⟨kG4, hkG4⟩ : ∃ k : Nat, u4.heap.size = k := ⟨_, rfl⟩); have G4 : Blk w4 kG4 #[.int .u8 (q).tos, .int .u16 (q).id, .bool (q).keep, .int .u8 (q).ttl, .int .u8 (q).proto, .int .u32 (q).src, .int .u32 (q).dst, .slice C1 e1 f1, .slice C2 e2 f2] 26 := (by rw [← hw4]; exact blk_new u4 _ _ _ hkG4); have Gc4 := G4.cell; have T4 := below_then hB4 V4; have a4 := (kq1).below V4; have z4 := (kq2).below V4; have P4 := P3.below T4; have Pc4 := P4.cell; clear Pc3; have Z4 := Z3.below T4; have Zc4 := Z4.cell; clear Zc3; have Y4 := Y3.below T4; have Yc4 := Y4.cell; clear Yc3; have S4 := S3.below T4; have Sc4 := S4.cell; clear Sc3; have x4 := x3.below T4; have y4 := y3.below T4; have R4 := below_then R3 T4; (obtain ⟨w5, hw5⟩ : ∃ W, w4.alloc (.cells #[.int .u8 q.proto, .int .u32 q.src, .int .u32 q.dst, .int .u16 0, .int .u16 0] 28) = W := ⟨_, rfl⟩); have V5 : Below w4.heap.size w4 w5 := (by rw [← hw5]; (repeat (first | with_reducible exact Below.refl _ _ | with_reducible refine below_drew ?_ | with_reducible refine below_drewN ?_ _ | with_reducible refine below_alloc ?_ (Nat.le_refl _) _ | with_reducible refine Below.setCell ?_ (by first | exact Nat.le_refl _ | (simp only []; omega)) _ | with_reducible assumption))); (obtain ⟨kX5, hkX5⟩ : ∃ k : Nat, w4.heap.size = k := ⟨_, rfl⟩); have X5 : Blk w5 kX5 #[.int .u8 q.proto, .int .u32 q.src, .int .u32 q.dst, .int .u16 0, .int .u16 0] 28 := (by rw [← hw5]; exact blk_new w4 _ _ _ hkX5); have Xc5 := X5.cell; have P5 := P4.below V5; have Pc5 := P5.cell; have Z5 := Z4.below V5; have Zc5 := Z5.cell; have Y5 := Y4.below V5; have Yc5 := Y5.cell; have S5 := S4.below V5; have Sc5 := S5.cell; have G5 := G4.below V5; have Gc5 := G5.cell; have x5 := x4.below V5; have y5 := y4.below V5; have a5 := a4.below V5; have z5 := z4.below V5; have R5 := below_then R4 V5; have i3 : w5.setCell ⟨kX5, 3, none⟩ (.int .u16 0) = w5 := X5.idle rfl; have i4 : w5.setCell ⟨kX5, 4, none⟩ (.int .u16 0) = w5 := X5.idle rfl; (obtain ⟨bb, off, rfl, q1, h0c, h1c⟩ := hcell _ _ _ _ z5); have q0 : 0 < e2 := (by omega); have q0' : (0 : Int) < e2 := (by omega); have q1' : (1 : Int) < e2 := (by omega)))
    obtain ⟨wf, hwf, Sf⟩ := store9 Z5 (.int .u8 0) (.int .u16 0) (.bool false) (.int .u8 0) (.int .u8 0) (.int .u32 0) (.int .u32 0) (.slice none 0 0) (.slice none 0 0)
    have Yf := Sf.other (by omega) Y5
    obtain ⟨wg, hwg, Sg⟩ := store5 Yf (.int .u8 0) (.int .u32 0) (.int .u32 0) (.int .u16 0) (.int .u16 0)
    rw [hwf, hwg]
    have Zg := Sg.other (by omega) Sf.blk
    have pf := Zg.cell
    have pg := Sg.blk.cell
    exact bodyPost_ret (v := .tuple #[.agg #[.int .u8 0, .int .u16 0, .bool false, .int .u8 0, .int .u8 0, .int .u32 0, .int .u32 0, .slice none 0 0, .slice none 0 0], .agg #[.int .u8 0, .int .u32 0, .int .u32 0, .int .u16 0, .int .u16 0], .int .i64 12]) (by simp [results, Try.results39, go_sem, pf, pg]) rfl ⟨none, 0, 0, none, 0, 0, rfl, Bs.none_ _, Bs.none_ _, Sg.bel (Sf.bel R5 (by omega)) (by omega)⟩

  · rw [t3, if_neg (by decide), if_neg (by decide), if_neg (by decide)]
    clear t3
    go_enter Try.func39, Try.ntmps39
    go_wp2_with (first
      | (go_at_call 16; ((with_reducible refine (ht w1 x1).mono ?_); rintro e u2 ⟨⟨DA, dn, dc, rfl, ho, hB2⟩⟩); (obtain ⟨w2, hw2⟩ : ∃ W, u2.alloc (.cells #[.int .u8 (s).ty, .int .u8 (s).code, .int .u32 (s).rest, .slice DA dn dc] 42) = W := ⟨_, rfl⟩); have V2 : Below u2.heap.size u2 w2 := (by rw [← hw2]; (repeat (first | with_reducible exact Below.refl _ _ | with_reducible refine below_drew ?_ | with_reducible refine below_drewN ?_ _ | with_reducible refine below_alloc ?_ (Nat.le_refl _) _ | with_reducible refine Below.setCell ?_ (by first | exact Nat.le_refl _ | (simp only []; omega)) _ | with_reducible assumption))); (obtain ⟨kS2, hkS2⟩ : ∃ k : Nat, u2.heap.size = k := ⟨_, rfl⟩); have S2 : Blk w2 kS2 #[.int .u8 (s).ty, .int .u8 (s).code, .int .u32 (s).rest, .slice DA dn dc] 42 := (by rw [← hw2]; exact blk_new u2 _ _ _ hkS2); have Sc2 := S2.cell; have T2 := below_then hB2 V2; have y2 := (ho.bs).below V2; have P2 := P1.below T2; have Pc2 := P2.cell; clear Pc1; have Z2 := Z1.below T2; have Zc2 := Z2.cell; clear Zc1; have Y2 := Y1.below T2; have Yc2 := Y2.cell; clear Yc1; have x2 := x1.below T2; have R2 := below_then R1 T2)
      | (go_at_call 69; ((with_reducible refine (he DA dn dc w2).mono ?_); rintro e w3 ⟨rfl, hB3⟩); have P3 := P2.below hB3; have Pc3 := P3.cell; clear Pc2; have Z3 := Z2.below hB3; have Zc3 := Z3.cell; clear Zc2; have Y3 := Y2.below hB3; have Yc3 := Y3.cell; clear Yc2; have S3 := S2.below hB3; have Sc3 := S3.cell; clear Sc2; have x3 := x2.below hB3; have y3 := y2.below hB3; have R3 := below_then R2 hB3)
      | (go_at_call 70; ((with_reducible refine (hq DA dn dc w3 y3).mono ?_); rintro e u4 ⟨C1, e1, f1, C2, e2, f2, rfl, kq1, kq2, ga, gb, hB4⟩); (obtain ⟨w4, hw4⟩ : ∃ W, u4.alloc (.cells #[.int .u8 (q).tos, .int .u16 (q).id, .bool (q).keep, .int .u8 (q).ttl, .int .u8 (q).proto, .int .u32 (q).src, .int .u32 (q).dst, .slice C1 e1 f1, .slice C2 e2 f2] 26) = W := ⟨_, rfl⟩); have V4 : Below u4.heap.size u4 w4 := (by rw [← hw4]; (repeat (first | with_reducible exact Below.refl _ _ | with_reducible refine below_drew ?_ | with_reducible refine below_drewN ?_ _ | with_reducible refine below_alloc ?_ (Nat.le_refl _) _ | with_reducible refine Below.setCell ?_ (by first | exact Nat.le_refl _ | (simp only []; omega)) _ | with_reducible assumption))); (obtain ⟨kG4, hkG4⟩ : ∃ k : Nat, u4.heap.size = k := ⟨_, rfl⟩); have G4 : Blk w4 kG4 #[.int .u8 (q).tos, .int .u16 (q).id, .bool (q).keep, .int .u8 (q).ttl, .int .u8 (q).proto, .int .u32 (q).src, .int .u32 (q).dst, .slice C1 e1 f1, .slice C2 e2 f2] 26 := (by rw [← hw4]; exact blk_new u4 _ _ _ hkG4); have Gc4 := G4.cell; have T4 := below_then hB4 V4; have a4 := (kq1).below V4; have z4 := (kq2).below V4; have P4 := P3.below T4; have Pc4 := P4.cell; clear Pc3; have Z4 := Z3.below T4; have Zc4 := Z4.cell; clear Zc3; have Y4 := Y3.below T4; have Yc4 := Y4.cell; clear Yc3; have S4 := S3.below T4; have Sc4 := S4.cell; clear Sc3; have x4 := x3.below T4; have y4 := y3.below T4; have R4 := below_then R3 T4; (obtain ⟨w5, hw5⟩ : ∃ W, w4.alloc (.cells #[.int .u8 q.proto, .int .u32 q.src, .int .u32 q.dst, .int .u16 0, .int .u16 0] 28) = W := ⟨_, rfl⟩); have V5 : Below w4.heap.size w4 w5 := (by rw [← hw5]; (repeat (first | with_reducible exact Below.refl _ _ | with_reducible refine below_drew ?_ | with_reducible refine below_drewN ?_ _ | with_reducible refine below_alloc ?_ (Nat.le_refl _) _ | with_reducible refine Below.setCell ?_ (by first | exact Nat.le_refl _ | (simp only []; omega)) _ | with_reducible assumption))); (obtain ⟨kX5, hkX5⟩ : ∃ k : Nat, w4.heap.size = k := ⟨_, rfl⟩); have X5 : Blk w5 kX5 #[.int .u8 q.proto, .int .u32 q.src, .int .u32 q.dst, .int .u16 0, .int .u16 0] 28 := (by rw [← hw5]; exact blk_new w4 _ _ _ hkX5); have Xc5 := X5.cell; have P5 := P4.below V5; have Pc5 := P5.cell; have Z5 := Z4.below V5; have Zc5 := Z5.cell; have Y5 := Y4.below V5; have Yc5 := Y5.cell; have S5 := S4.below V5; have Sc5 := S5.cell; have G5 := G4.below V5; have Gc5 := G5.cell; have x5 := x4.below V5; have y5 := y4.below V5; have a5 := a4.below V5; have z5 := z4.below V5; have R5 := below_then R4 V5; have i3 : w5.setCell ⟨kX5, 3, none⟩ (.int .u16 0) = w5 := X5.idle rfl; have i4 : w5.setCell ⟨kX5, 4, none⟩ (.int .u16 0) = w5 := X5.idle rfl; (obtain ⟨bb, off, rfl, q1, h0c, h1c⟩ := hcell _ _ _ _ z5); have q0 : 0 < e2 := (by omega); have q0' : (0 : Int) < e2 := (by omega); have q1' : (1 : Int) < e2 := (by omega))
      | (go_at_call 55; ((with_reducible refine (cg0 _ e2 f2 w5 z5).mono ?_); rintro e w6 ⟨rfl, hD6⟩); have hB6 := hD6.bel; have P6 := P5.below hB6; have Pc6 := P6.cell; clear Pc5; have Z6 := Z5.below hB6; have Zc6 := Z6.cell; clear Zc5; have Y6 := Y5.below hB6; have Yc6 := Y6.cell; clear Yc5; have S6 := S5.below hB6; have Sc6 := S6.cell; clear Sc5; have G6 := G5.below hB6; have Gc6 := G6.cell; clear Gc5; have X6 := X5.below hB6; have Xc6 := X6.cell; clear Xc5; have x6 := x5.below hB6; have y6 := y5.below hB6; have a6 := a5.below hB6; have z6 := z5.below hB6; have R6 := below_then R5 hB6; (obtain ⟨w9, hw9, S9⟩ := store34 X6 (.int .u16 g0) (.int .u16 g0)); have B9 := S9.bel (below_then V5 hB6) (by omega); have Xc5' := (X6.set_ 3 (.int .u16 g0)).cell; have G9 := G4.below B9; have Gc9 := G9.cell; have Z9 := Z4.below B9; have Zc9 := Z9.cell; have Y9 := Y4.below B9; have Yc9 := Y9.cell; have a9 := a4.below B9; have z9 := z4.below B9; have R9 := below_then R4 B9; have X9 := S9.blk; have Xc9 := X9.cell))
    have y3 := Y3.lt
    have y4 := Y4.lt
    obtain ⟨wf, hwf, Sf⟩ := store9 Z9 (.int .u8 q.tos) (.int .u16 q.id) (.bool q.keep) (.int .u8 q.ttl) (.int .u8 q.proto) (.int .u32 q.src) (.int .u32 q.dst) (.slice C1 e1 f1) (.slice (some ⟨bb, off, none⟩) e2 f2)
    have Yf := Sf.other (by omega) Y9
    have Yfc := Yf.cell
    have Xf := Sf.other (by omega) X9
    have Xfc := Xf.cell
    obtain ⟨wg, hwg, Sg⟩ : ∃ wg, (((((wf.setCell ⟨k + 1 + 1, 0, none⟩ (.int .u8 q.proto)).setCell ⟨k + 1 + 1, 1, none⟩ (.int .u32 q.src)).setCell ⟨k + 1 + 1, 2, none⟩ (.int .u32 q.dst)).setCell ⟨k + 1 + 1, 3, none⟩ (.int .u16 g0)).setCell ⟨k + 1 + 1, 4, none⟩ (.int .u16 g0)).drew = wg ∧ Sto wf (k + 1 + 1) wg #[.int .u8 q.proto, .int .u32 q.src, .int .u32 q.dst, .int .u16 g0, .int .u16 g0] 28 := ⟨_, rfl, by
      obtain ⟨wh, hwh, Sh⟩ := store5 Yf (.int .u8 q.proto) (.int .u32 q.src) (.int .u32 q.dst) (.int .u16 g0) (.int .u16 g0)
      rw [hwh]
      exact Sh.drew⟩
    have Zg := Sg.other (by omega) Sf.blk
    have pf := Zg.cell
    have pg := Sg.blk.cell
    have ka := Sg.bs (Sf.bs a9 (fun x h => by have := ga x h; omega)) (fun x h => by have := ga x h; omega)
    have kb := Sg.bs (Sf.bs z9 (fun x h => by have := gb x h; omega)) (fun x h => by have := gb x h; omega)
    have RG := Sg.bel (Sf.bel R9 (by omega)) (by omega)
    clear Xf Yf Sf Sg Zg X9 Y9 Z9 G9 a9 z9
    go_region
    go_wp2_with fail
    exact bodyPost_ret (v := .tuple #[(.agg #[.int .u8 (q).tos, .int .u16 (q).id, .bool (q).keep, .int .u8 (q).ttl, .int .u8 (q).proto, .int .u32 (q).src, .int .u32 (q).dst, .slice C1 e1 f1, .slice (some ⟨bb, off, none⟩) e2 f2]), (.agg #[.int .u8 ((⟨q.proto, q.src, q.dst, g0, g0⟩ : Tup)).proto, .int .u32 ((⟨q.proto, q.src, q.dst, g0, g0⟩ : Tup)).src, .int .u32 ((⟨q.proto, q.src, q.dst, g0, g0⟩ : Tup)).dst, .int .u16 ((⟨q.proto, q.src, q.dst, g0, g0⟩ : Tup)).sp, .int .u16 ((⟨q.proto, q.src, q.dst, g0, g0⟩ : Tup)).dp]), .int .i64 0]) (by simp [results, Try.results39, go_sem, pf, pg]) rfl ⟨C1, e1, f1, _, e2, f2, rfl, ka, kb, RG⟩

  · rw [t3, if_neg (by decide), if_neg (by decide), if_neg (by decide)]
    clear t3
    go_enter Try.func39, Try.ntmps39
    go_wp2_with (first
      | (go_at_call 16; ((with_reducible refine (ht w1 x1).mono ?_); rintro e u2 ⟨⟨DA, dn, dc, rfl, ho, hB2⟩⟩); (obtain ⟨w2, hw2⟩ : ∃ W, u2.alloc (.cells #[.int .u8 (s).ty, .int .u8 (s).code, .int .u32 (s).rest, .slice DA dn dc] 42) = W := ⟨_, rfl⟩); have V2 : Below u2.heap.size u2 w2 := (by rw [← hw2]; (repeat (first | with_reducible exact Below.refl _ _ | with_reducible refine below_drew ?_ | with_reducible refine below_drewN ?_ _ | with_reducible refine below_alloc ?_ (Nat.le_refl _) _ | with_reducible refine Below.setCell ?_ (by first | exact Nat.le_refl _ | (simp only []; omega)) _ | with_reducible assumption))); (obtain ⟨kS2, hkS2⟩ : ∃ k : Nat, u2.heap.size = k := ⟨_, rfl⟩); have S2 : Blk w2 kS2 #[.int .u8 (s).ty, .int .u8 (s).code, .int .u32 (s).rest, .slice DA dn dc] 42 := (by rw [← hw2]; exact blk_new u2 _ _ _ hkS2); have Sc2 := S2.cell; have T2 := below_then hB2 V2; have y2 := (ho.bs).below V2; have P2 := P1.below T2; have Pc2 := P2.cell; clear Pc1; have Z2 := Z1.below T2; have Zc2 := Z2.cell; clear Zc1; have Y2 := Y1.below T2; have Yc2 := Y2.cell; clear Yc1; have x2 := x1.below T2; have R2 := below_then R1 T2)
      | (go_at_call 69; ((with_reducible refine (he DA dn dc w2).mono ?_); rintro e w3 ⟨rfl, hB3⟩); have P3 := P2.below hB3; have Pc3 := P3.cell; clear Pc2; have Z3 := Z2.below hB3; have Zc3 := Z3.cell; clear Zc2; have Y3 := Y2.below hB3; have Yc3 := Y3.cell; clear Yc2; have S3 := S2.below hB3; have Sc3 := S3.cell; clear Sc2; have x3 := x2.below hB3; have y3 := y2.below hB3; have R3 := below_then R2 hB3)
      | (go_at_call 70; ((with_reducible refine (hq DA dn dc w3 y3).mono ?_); rintro e u4 ⟨C1, e1, f1, C2, e2, f2, rfl, kq1, kq2, ga, gb, hB4⟩); (obtain ⟨w4, hw4⟩ : ∃ W, u4.alloc (.cells #[.int .u8 (q).tos, .int .u16 (q).id, .bool (q).keep, .int .u8 (q).ttl, .int .u8 (q).proto, .int .u32 (q).src, .int .u32 (q).dst, .slice C1 e1 f1, .slice C2 e2 f2] 26) = W := ⟨_, rfl⟩); have V4 : Below u4.heap.size u4 w4 := (by rw [← hw4]; (repeat (first | with_reducible exact Below.refl _ _ | with_reducible refine below_drew ?_ | with_reducible refine below_drewN ?_ _ | with_reducible refine below_alloc ?_ (Nat.le_refl _) _ | with_reducible refine Below.setCell ?_ (by first | exact Nat.le_refl _ | (simp only []; omega)) _ | with_reducible assumption))); (obtain ⟨kG4, hkG4⟩ : ∃ k : Nat, u4.heap.size = k := ⟨_, rfl⟩); have G4 : Blk w4 kG4 #[.int .u8 (q).tos, .int .u16 (q).id, .bool (q).keep, .int .u8 (q).ttl, .int .u8 (q).proto, .int .u32 (q).src, .int .u32 (q).dst, .slice C1 e1 f1, .slice C2 e2 f2] 26 := (by rw [← hw4]; exact blk_new u4 _ _ _ hkG4); have Gc4 := G4.cell; have T4 := below_then hB4 V4; have a4 := (kq1).below V4; have z4 := (kq2).below V4; have P4 := P3.below T4; have Pc4 := P4.cell; clear Pc3; have Z4 := Z3.below T4; have Zc4 := Z4.cell; clear Zc3; have Y4 := Y3.below T4; have Yc4 := Y4.cell; clear Yc3; have S4 := S3.below T4; have Sc4 := S4.cell; clear Sc3; have x4 := x3.below T4; have y4 := y3.below T4; have R4 := below_then R3 T4; (obtain ⟨w5, hw5⟩ : ∃ W, w4.alloc (.cells #[.int .u8 q.proto, .int .u32 q.src, .int .u32 q.dst, .int .u16 0, .int .u16 0] 28) = W := ⟨_, rfl⟩); have V5 : Below w4.heap.size w4 w5 := (by rw [← hw5]; (repeat (first | with_reducible exact Below.refl _ _ | with_reducible refine below_drew ?_ | with_reducible refine below_drewN ?_ _ | with_reducible refine below_alloc ?_ (Nat.le_refl _) _ | with_reducible refine Below.setCell ?_ (by first | exact Nat.le_refl _ | (simp only []; omega)) _ | with_reducible assumption))); (obtain ⟨kX5, hkX5⟩ : ∃ k : Nat, w4.heap.size = k := ⟨_, rfl⟩); have X5 : Blk w5 kX5 #[.int .u8 q.proto, .int .u32 q.src, .int .u32 q.dst, .int .u16 0, .int .u16 0] 28 := (by rw [← hw5]; exact blk_new w4 _ _ _ hkX5); have Xc5 := X5.cell; have P5 := P4.below V5; have Pc5 := P5.cell; have Z5 := Z4.below V5; have Zc5 := Z5.cell; have Y5 := Y4.below V5; have Yc5 := Y5.cell; have S5 := S4.below V5; have Sc5 := S5.cell; have G5 := G4.below V5; have Gc5 := G5.cell; have x5 := x4.below V5; have y5 := y4.below V5; have a5 := a4.below V5; have z5 := z4.below V5; have R5 := below_then R4 V5; have i3 : w5.setCell ⟨kX5, 3, none⟩ (.int .u16 0) = w5 := X5.idle rfl; have i4 : w5.setCell ⟨kX5, 4, none⟩ (.int .u16 0) = w5 := X5.idle rfl; (obtain ⟨bb, off, rfl, q1, h0c, h1c⟩ := hcell _ _ _ _ z5); have q0 : 0 < e2 := (by omega); have q0' : (0 : Int) < e2 := (by omega); have q1' : (1 : Int) < e2 := (by omega))
      | (go_at_call 55; ((with_reducible refine (cg0 _ e2 f2 w5 z5).mono ?_); rintro e w6 ⟨rfl, hD6⟩); have hB6 := hD6.bel; have P6 := P5.below hB6; have Pc6 := P6.cell; clear Pc5; have Z6 := Z5.below hB6; have Zc6 := Z6.cell; clear Zc5; have Y6 := Y5.below hB6; have Yc6 := Y6.cell; clear Yc5; have S6 := S5.below hB6; have Sc6 := S6.cell; clear Sc5; have G6 := G5.below hB6; have Gc6 := G6.cell; clear Gc5; have X6 := X5.below hB6; have Xc6 := X6.cell; clear Xc5; have x6 := x5.below hB6; have y6 := y5.below hB6; have a6 := a5.below hB6; have z6 := z5.below hB6; have R6 := below_then R5 hB6; (obtain ⟨w9, hw9, S9⟩ := store34 X6 (.int .u16 g0) (.int .u16 g0)); have B9 := S9.bel (below_then V5 hB6) (by omega); have Xc5' := (X6.set_ 3 (.int .u16 g0)).cell; have G9 := G4.below B9; have Gc9 := G9.cell; have Z9 := Z4.below B9; have Zc9 := Z9.cell; have Y9 := Y4.below B9; have Yc9 := Y9.cell; have a9 := a4.below B9; have z9 := z4.below B9; have R9 := below_then R4 B9; have X9 := S9.blk; have Xc9 := X9.cell))
    have y3 := Y3.lt
    have y4 := Y4.lt
    obtain ⟨wf, hwf, Sf⟩ := store9 Z9 (.int .u8 q.tos) (.int .u16 q.id) (.bool q.keep) (.int .u8 q.ttl) (.int .u8 q.proto) (.int .u32 q.src) (.int .u32 q.dst) (.slice C1 e1 f1) (.slice (some ⟨bb, off, none⟩) e2 f2)
    have Yf := Sf.other (by omega) Y9
    have Yfc := Yf.cell
    have Xf := Sf.other (by omega) X9
    have Xfc := Xf.cell
    obtain ⟨wg, hwg, Sg⟩ : ∃ wg, (((((wf.setCell ⟨k + 1 + 1, 0, none⟩ (.int .u8 q.proto)).setCell ⟨k + 1 + 1, 1, none⟩ (.int .u32 q.src)).setCell ⟨k + 1 + 1, 2, none⟩ (.int .u32 q.dst)).setCell ⟨k + 1 + 1, 3, none⟩ (.int .u16 g0)).setCell ⟨k + 1 + 1, 4, none⟩ (.int .u16 g0)).drew = wg ∧ Sto wf (k + 1 + 1) wg #[.int .u8 q.proto, .int .u32 q.src, .int .u32 q.dst, .int .u16 g0, .int .u16 g0] 28 := ⟨_, rfl, by
      obtain ⟨wh, hwh, Sh⟩ := store5 Yf (.int .u8 q.proto) (.int .u32 q.src) (.int .u32 q.dst) (.int .u16 g0) (.int .u16 g0)
      rw [hwh]
      exact Sh.drew⟩
    have Zg := Sg.other (by omega) Sf.blk
    have pf := Zg.cell
    have pg := Sg.blk.cell
    have ka := Sg.bs (Sf.bs a9 (fun x h => by have := ga x h; omega)) (fun x h => by have := ga x h; omega)
    have kb := Sg.bs (Sf.bs z9 (fun x h => by have := gb x h; omega)) (fun x h => by have := gb x h; omega)
    have RG := Sg.bel (Sf.bel R9 (by omega)) (by omega)
    clear Xf Yf Sf Sg Zg X9 Y9 Z9 G9 a9 z9
    go_region
    go_wp2_with fail
    exact bodyPost_ret (v := .tuple #[(.agg #[.int .u8 (q).tos, .int .u16 (q).id, .bool (q).keep, .int .u8 (q).ttl, .int .u8 (q).proto, .int .u32 (q).src, .int .u32 (q).dst, .slice C1 e1 f1, .slice (some ⟨bb, off, none⟩) e2 f2]), (.agg #[.int .u8 ((⟨q.proto, q.src, q.dst, g0, g0⟩ : Tup)).proto, .int .u32 ((⟨q.proto, q.src, q.dst, g0, g0⟩ : Tup)).src, .int .u32 ((⟨q.proto, q.src, q.dst, g0, g0⟩ : Tup)).dst, .int .u16 ((⟨q.proto, q.src, q.dst, g0, g0⟩ : Tup)).sp, .int .u16 ((⟨q.proto, q.src, q.dst, g0, g0⟩ : Tup)).dp]), .int .i64 0]) (by simp [results, Try.results39, go_sem, pf, pg]) rfl ⟨C1, e1, f1, _, e2, f2, rfl, ka, kb, RG⟩

theorem inn_none (p : Pkt) (A1 : Option Addr) (n1 c1 : Nat) (A2 : Option Addr) (n2 c2 : Nat) (w : World) (k2 : Bs w A2 n2 c2 p.dat) (h1 : (p.proto != 1) = false) (s : Msg)  (ht : ∀ W, Bs W A2 n2 c2 p.dat → Calls Try.prog 16 #[(.agg #[.int .u8 (p).tos, .int .u16 (p).id, .bool (p).keep, .int .u8 (p).ttl, .int .u8 (p).proto, .int .u32 (p).src, .int .u32 (p).dst, .slice A1 n1 c1, .slice A2 n2 c2])] W (MsPost W s 0))  (he : ∀ B b1 b2 W, Calls Try.prog 69 #[(.agg #[.int .u8 (s).ty, .int .u8 (s).code, .int .u32 (s).rest, .slice B b1 b2])] W fun e w' => e = .returned (.bool true) ∧ Below W.heap.size W w') (q : Pkt)  (hq : ∀ B b1 b2 W, Bs W B b1 b2 s.dat → Calls Try.prog 70 #[.slice B b1 b2] W fun e w' => ∃ C1 e1 f1 C2 e2 f2, e = .returned (.tuple #[(.agg #[.int .u8 (q).tos, .int .u16 (q).id, .bool (q).keep, .int .u8 (q).ttl, .int .u8 (q).proto, .int .u32 (q).src, .int .u32 (q).dst, .slice C1 e1 f1, .slice C2 e2 f2]), .int .i64 0]) ∧ Bs w' C1 e1 f1 q.opt ∧ Bs w' C2 e2 f2 q.dat ∧ (∀ a, C1 = some a → W.heap.size ≤ a.block) ∧ (∀ a, C2 = some a → W.heap.size ≤ a.block) ∧ Below W.heap.size W w') (hn6 : (q.proto == 6) = false) (hn17 : (q.proto == 17) = false) (hn1 : (q.proto == 1) = false) (hn47 : (q.proto == 47) = false) :
    Calls Try.prog 39 #[(.agg #[.int .u8 (p).tos, .int .u16 (p).id, .bool (p).keep, .int .u8 (p).ttl, .int .u8 (p).proto, .int .u32 (p).src, .int .u32 (p).dst, .slice A1 n1 c1, .slice A2 n2 c2])] w (InPost w zP zT 12) := by
  obtain ⟨k, hk⟩ : ∃ k : Nat, w.heap.size = k := ⟨_, rfl⟩
  obtain ⟨w1, hw1⟩ : ∃ W, (((w.alloc (.cells #[.int .u8 (p).tos, .int .u16 (p).id, .bool (p).keep, .int .u8 (p).ttl, .int .u8 (p).proto, .int .u32 (p).src, .int .u32 (p).dst, .slice A1 n1 c1, .slice A2 n2 c2] 26)).alloc (.cells #[.int .u8 0, .int .u16 0, .bool false, .int .u8 0, .int .u8 0, .int .u32 0, .int .u32 0, .slice none 0 0, .slice none 0 0] 26)).alloc (.cells #[.int .u8 0, .int .u32 0, .int .u32 0, .int .u16 0, .int .u16 0] 28)) = W := ⟨_, rfl⟩
  have P1 : Blk w1 k #[.int .u8 (p).tos, .int .u16 (p).id, .bool (p).keep, .int .u8 (p).ttl, .int .u8 (p).proto, .int .u32 (p).src, .int .u32 (p).dst, .slice A1 n1 c1, .slice A2 n2 c2] 26 := by rw [← hw1]; exact (((blk_new _ _ _ k (by simp [hk])).alloc _).alloc _)
  have Z1 : Blk w1 (k + 1) #[.int .u8 0, .int .u16 0, .bool false, .int .u8 0, .int .u8 0, .int .u32 0, .int .u32 0, .slice none 0 0, .slice none 0 0] 26 := by rw [← hw1]; exact ((blk_new _ _ _ (k + 1) (by simp [hk])).alloc _)
  have Y1 : Blk w1 (k + 1 + 1) #[.int .u8 0, .int .u32 0, .int .u32 0, .int .u16 0, .int .u16 0] 28 := by rw [← hw1]; exact (blk_new _ _ _ (k + 1 + 1) (by simp [hk]))
  have R1 : Below w.heap.size w w1 := by rw [← hw1]; (repeat (first | with_reducible exact Below.refl _ _ | with_reducible refine below_drew ?_ | with_reducible refine below_drewN ?_ _ | with_reducible refine below_alloc ?_ (Nat.le_refl _) _ | with_reducible refine Below.setCell ?_ (by first | exact Nat.le_refl _ | (simp only []; omega)) _ | with_reducible assumption))
  have Pc1 := P1.cell
  have Zc1 := Z1.cell
  have Yc1 := Y1.cell
  have Pl1 := P1.lt
  have Zl1 := Z1.lt
  have Yl1 := Y1.lt
  have x1 := (k2).below R1
  go_enter Try.func39, Try.ntmps39
  go_wp2_with (first
    | (go_at_call 16; ((with_reducible refine (ht w1 x1).mono ?_); rintro e u2 ⟨⟨DA, dn, dc, rfl, ho, hB2⟩⟩); (obtain ⟨w2, hw2⟩ : ∃ W, u2.alloc (.cells #[.int .u8 (s).ty, .int .u8 (s).code, .int .u32 (s).rest, .slice DA dn dc] 42) = W := ⟨_, rfl⟩); have V2 : Below u2.heap.size u2 w2 := (by rw [← hw2]; (repeat (first | with_reducible exact Below.refl _ _ | with_reducible refine below_drew ?_ | with_reducible refine below_drewN ?_ _ | with_reducible refine below_alloc ?_ (Nat.le_refl _) _ | with_reducible refine Below.setCell ?_ (by first | exact Nat.le_refl _ | (simp only []; omega)) _ | with_reducible assumption))); (obtain ⟨kS2, hkS2⟩ : ∃ k : Nat, u2.heap.size = k := ⟨_, rfl⟩); have S2 : Blk w2 kS2 #[.int .u8 (s).ty, .int .u8 (s).code, .int .u32 (s).rest, .slice DA dn dc] 42 := (by rw [← hw2]; exact blk_new u2 _ _ _ hkS2); have Sc2 := S2.cell; have T2 := below_then hB2 V2; have y2 := (ho.bs).below V2; have P2 := P1.below T2; have Pc2 := P2.cell; clear Pc1; have Z2 := Z1.below T2; have Zc2 := Z2.cell; clear Zc1; have Y2 := Y1.below T2; have Yc2 := Y2.cell; clear Yc1; have x2 := x1.below T2; have R2 := below_then R1 T2)
    | (go_at_call 69; ((with_reducible refine (he DA dn dc w2).mono ?_); rintro e w3 ⟨rfl, hB3⟩); have P3 := P2.below hB3; have Pc3 := P3.cell; clear Pc2; have Z3 := Z2.below hB3; have Zc3 := Z3.cell; clear Zc2; have Y3 := Y2.below hB3; have Yc3 := Y3.cell; clear Yc2; have S3 := S2.below hB3; have Sc3 := S3.cell; clear Sc2; have x3 := x2.below hB3; have y3 := y2.below hB3; have R3 := below_then R2 hB3)
    | (go_at_call 70; ((with_reducible refine (hq DA dn dc w3 y3).mono ?_); rintro e u4 ⟨C1, e1, f1, C2, e2, f2, rfl, kq1, kq2, ga, gb, hB4⟩); (obtain ⟨w4, hw4⟩ : ∃ W, u4.alloc (.cells #[.int .u8 (q).tos, .int .u16 (q).id, .bool (q).keep, .int .u8 (q).ttl, .int .u8 (q).proto, .int .u32 (q).src, .int .u32 (q).dst, .slice C1 e1 f1, .slice C2 e2 f2] 26) = W := ⟨_, rfl⟩); have V4 : Below u4.heap.size u4 w4 := (by rw [← hw4]; (repeat (first | with_reducible exact Below.refl _ _ | with_reducible refine below_drew ?_ | with_reducible refine below_drewN ?_ _ | with_reducible refine below_alloc ?_ (Nat.le_refl _) _ | with_reducible refine Below.setCell ?_ (by first | exact Nat.le_refl _ | (simp only []; omega)) _ | with_reducible assumption))); (obtain ⟨kG4, hkG4⟩ : ∃ k : Nat, u4.heap.size = k := ⟨_, rfl⟩); have G4 : Blk w4 kG4 #[.int .u8 (q).tos, .int .u16 (q).id, .bool (q).keep, .int .u8 (q).ttl, .int .u8 (q).proto, .int .u32 (q).src, .int .u32 (q).dst, .slice C1 e1 f1, .slice C2 e2 f2] 26 := (by rw [← hw4]; exact blk_new u4 _ _ _ hkG4); have Gc4 := G4.cell; have T4 := below_then hB4 V4; have a4 := (kq1).below V4; have z4 := (kq2).below V4; have P4 := P3.below T4; have Pc4 := P4.cell; clear Pc3; have Z4 := Z3.below T4; have Zc4 := Z4.cell; clear Zc3; have Y4 := Y3.below T4; have Yc4 := Y4.cell; clear Yc3; have S4 := S3.below T4; have Sc4 := S4.cell; clear Sc3; have x4 := x3.below T4; have y4 := y3.below T4; have R4 := below_then R3 T4; (obtain ⟨w5, hw5⟩ : ∃ W, w4.alloc (.cells #[.int .u8 q.proto, .int .u32 q.src, .int .u32 q.dst, .int .u16 0, .int .u16 0] 28) = W := ⟨_, rfl⟩); have V5 : Below w4.heap.size w4 w5 := (by rw [← hw5]; (repeat (first | with_reducible exact Below.refl _ _ | with_reducible refine below_drew ?_ | with_reducible refine below_drewN ?_ _ | with_reducible refine below_alloc ?_ (Nat.le_refl _) _ | with_reducible refine Below.setCell ?_ (by first | exact Nat.le_refl _ | (simp only []; omega)) _ | with_reducible assumption))); (obtain ⟨kX5, hkX5⟩ : ∃ k : Nat, w4.heap.size = k := ⟨_, rfl⟩); have X5 : Blk w5 kX5 #[.int .u8 q.proto, .int .u32 q.src, .int .u32 q.dst, .int .u16 0, .int .u16 0] 28 := (by rw [← hw5]; exact blk_new w4 _ _ _ hkX5); have Xc5 := X5.cell; have P5 := P4.below V5; have Pc5 := P5.cell; have Z5 := Z4.below V5; have Zc5 := Z5.cell; have Y5 := Y4.below V5; have Yc5 := Y5.cell; have S5 := S4.below V5; have Sc5 := S5.cell; have G5 := G4.below V5; have Gc5 := G5.cell; have x5 := x4.below V5; have y5 := y4.below V5; have a5 := a4.below V5; have z5 := z4.below V5; have R5 := below_then R4 V5; have i3 : w5.setCell ⟨kX5, 3, none⟩ (.int .u16 0) = w5 := X5.idle rfl; have i4 : w5.setCell ⟨kX5, 4, none⟩ (.int .u16 0) = w5 := X5.idle rfl))
  obtain ⟨wf, hwf, Sf⟩ := store9 Z5 (.int .u8 0) (.int .u16 0) (.bool false) (.int .u8 0) (.int .u8 0) (.int .u32 0) (.int .u32 0) (.slice none 0 0) (.slice none 0 0)
  have Yf := Sf.other (by omega) Y5
  obtain ⟨wg, hwg, Sg⟩ := store5 Yf (.int .u8 0) (.int .u32 0) (.int .u32 0) (.int .u16 0) (.int .u16 0)
  rw [hwf, hwg]
  have Zg := Sg.other (by omega) Sf.blk
  have pf := Zg.cell
  have pg := Sg.blk.cell
  exact bodyPost_ret (v := .tuple #[.agg #[.int .u8 0, .int .u16 0, .bool false, .int .u8 0, .int .u8 0, .int .u32 0, .int .u32 0, .slice none 0 0, .slice none 0 0], .agg #[.int .u8 0, .int .u32 0, .int .u32 0, .int .u16 0, .int .u16 0], .int .i64 12]) (by simp [results, Try.results39, go_sem, pf, pg]) rfl ⟨none, 0, 0, none, 0, 0, rfl, Bs.none_ _, Bs.none_ _, Sg.bel (Sf.bel R5 (by omega)) (by omega)⟩

theorem inner_any (p : Pkt) (A1 : Option Addr) (n1 c1 : Nat) (A2 : Option Addr) (n2 c2 : Nat) (w : World) (k2 : Bs w A2 n2 c2 p.dat) (hn2 : n2 ≤ 17592186044416) :
    Calls Try.prog 39 #[(.agg #[.int .u8 (p).tos, .int .u16 (p).id, .bool (p).keep, .int .u8 (p).ttl, .int .u8 (p).proto, .int .u32 (p).src, .int .u32 (p).dst, .slice A1 n1 c1, .slice A2 n2 c2])] w (InPost w (quQ p) (quT p) (quE p)) := by
  have ht := fun W (h : Bs W A2 n2 c2 p.dat) => ricmp_any p A1 n1 c1 A2 n2 c2 W h hn2
  have he := fun B b1 b2 W => riserr_any (icM p) B b1 b2 W
  have hq : ∀ B b1 b2 W, Bs W B b1 b2 (icM p).dat → _ := fun B b1 b2 W k => rQuote_v (l := (icM p).dat) rfl rfl B b1 b2 W k
  by_cases h1 : p.proto = 1
  case neg =>
    have hi := icE_12 h1
    have e : quE p = 12 := by unfold quE; rw [if_pos (by rw [hi]; decide), hi]
    rw [(quT_no (by rw [e]; decide)).1, (quT_no (by rw [e]; decide)).2, e]
    exact inn_0 p A1 n1 c1 A2 n2 c2 w k2 (by simpa using h1)
  have hp1 : (p.proto != 1) = false := by simp [h1]
  rcases quE_ways p with ⟨e, h0⟩ | ⟨e, h0, h1⟩ | ⟨h0, h1, h2, e⟩ | ⟨h0, h1, h2, e⟩
  · rw [(quT_no (by rw [e]; exact h0)).1, (quT_no (by rw [e]; exact h0)).2, e]
    exact inn_1 p A1 n1 c1 A2 n2 c2 w k2 hp1 _ _ ht h0
  · rw [(quT_no (by rw [e]; decide)).1, (quT_no (by rw [e]; decide)).2, e]
    rw [h0] at ht
    rw [h1] at he
    exact inn_2 p A1 n1 c1 A2 n2 c2 w k2 hp1 _ ht he
  · rw [(quT_no (by rw [e]; exact h2)).1, (quT_no (by rw [e]; exact h2)).2, e]
    rw [h0] at ht
    rw [h1] at he
    exact inn_3 p A1 n1 c1 A2 n2 c2 w k2 hp1 _ ht he _ _ hq h2
  · have hQ : quQ p = if quE p = 0 then rdPk true (icM p).dat else zP := rfl
    rw [quT_in e, hQ, e]
    rw [h0] at ht
    rw [h1] at he
    rw [h2] at hq
    have h8 := rd_8 h2
    obtain ⟨q, hqq⟩ : ∃ q, rdPk true (icM p).dat = q := ⟨_, rfl⟩
    rw [hqq] at hq h8
    rw [hqq]
    unfold inT
    rcases inE_ways q with ⟨t, i1, i2, i3⟩ | ⟨t, i1, i2, i3⟩ | ⟨t, i1, i2, i3⟩ | ⟨t, i1, i2, i3⟩ | ⟨t6, t17, t1, t47, i1⟩
    · rw [i1, i2, i3, if_pos rfl]
      exact inn_tcp p A1 n1 c1 A2 n2 c2 w k2 hp1 _ ht he _ hq t
    · rw [i1, i2, i3, if_pos rfl]
      exact inn_udp p A1 n1 c1 A2 n2 c2 w k2 hp1 _ ht he _ hq t
    · rw [i1, i2, i3]
      have := inn_icmp p A1 n1 c1 A2 n2 c2 w k2 hp1 _ ht he _ hq t h8
      revert this
      unfold tuP
      cases qEch q.dat <;> exact id
    · rw [i1, i2, i3]
      have := inn_gre p A1 n1 c1 A2 n2 c2 w k2 hp1 _ ht he _ hq t h8
      revert this
      unfold tuP
      cases begB q.dat <;> exact id
    · rw [i1, if_neg (by decide), show tuP q (inA q) (inB q) 12 = zT from by unfold tuP; rw [if_pos (by decide)]]
      exact inn_none p A1 n1 c1 A2 n2 c2 w k2 hp1 _ ht he _ hq (by simpa using t6) (by simpa using t17) (by simpa using t1) (by simpa using t47)
theorem rquo_any (p : Pkt) (A1 : Option Addr) (n1 c1 : Nat) (A2 : Option Addr) (n2 c2 : Nat) (w : World) (k2 : Bs w A2 n2 c2 p.dat) (hn2 : n2 ≤ 17592186044416) :
    Calls Try.prog 15 #[(.agg #[.int .u8 (p).tos, .int .u16 (p).id, .bool (p).keep, .int .u8 (p).ttl, .int .u8 (p).proto, .int .u32 (p).src, .int .u32 (p).dst, .slice A1 n1 c1, .slice A2 n2 c2])] w (TtPost w (quT p) (quE p)) := by
  have ht := fun W (h : Bs W A2 n2 c2 p.dat) => inner_any p A1 n1 c1 A2 n2 c2 W h hn2
  obtain ⟨Q, hQ⟩ : ∃ q, quQ p = q := ⟨_, rfl⟩
  obtain ⟨U, hU⟩ : ∃ q, quT p = q := ⟨_, rfl⟩
  obtain ⟨E, hE⟩ : ∃ q, quE p = q := ⟨_, rfl⟩
  rw [hQ, hU, hE] at ht
  rw [hU, hE]
  clear hQ hU hE
  obtain ⟨k, hk⟩ : ∃ k : Nat, w.heap.size = k := ⟨_, rfl⟩
  obtain ⟨w1, hw1⟩ : ∃ W, ((w.alloc (.cells #[.int .u8 (p).tos, .int .u16 (p).id, .bool (p).keep, .int .u8 (p).ttl, .int .u8 (p).proto, .int .u32 (p).src, .int .u32 (p).dst, .slice A1 n1 c1, .slice A2 n2 c2] 26)).alloc (.cells #[.int .u8 0, .int .u32 0, .int .u32 0, .int .u16 0, .int .u16 0] 28)) = W := ⟨_, rfl⟩
  have P1 : Blk w1 k #[.int .u8 (p).tos, .int .u16 (p).id, .bool (p).keep, .int .u8 (p).ttl, .int .u8 (p).proto, .int .u32 (p).src, .int .u32 (p).dst, .slice A1 n1 c1, .slice A2 n2 c2] 26 := by rw [← hw1]; exact ((blk_new _ _ _ k (by simp [hk])).alloc _)
  have Y1 : Blk w1 (k + 1) #[.int .u8 0, .int .u32 0, .int .u32 0, .int .u16 0, .int .u16 0] 28 := by rw [← hw1]; exact (blk_new _ _ _ (k + 1) (by simp [hk]))
  have R1 : Below w.heap.size w w1 := by rw [← hw1]; (repeat (first | with_reducible exact Below.refl _ _ | with_reducible refine below_drew ?_ | with_reducible refine below_drewN ?_ _ | with_reducible refine below_alloc ?_ (Nat.le_refl _) _ | with_reducible refine Below.setCell ?_ (by first | exact Nat.le_refl _ | (simp only []; omega)) _ | with_reducible assumption))
  have Pc1 := P1.cell
  have Yc1 := Y1.cell
  have Pl1 := P1.lt
  have Yl1 := Y1.lt
  have x1 := (k2).below R1
  go_enter Try.func15, Try.ntmps15
  go_wp2_with (go_at_call 39; ((with_reducible refine (ht w1 x1).mono ?_); rintro e w2 ⟨⟨C1, e1, f1, C2, e2, f2, rfl, -, -, hB2⟩⟩); have P2 := P1.below hB2; have Pc2 := P2.cell; clear Pc1; have Y2 := Y1.below hB2; have Yc2 := Y2.cell; clear Yc1; have x2 := x1.below hB2; have R2 := below_then R1 hB2; (obtain ⟨w3, hw3⟩ : ∃ W, (w2.alloc (.cells #[.int .u8 0, .int .u16 0, .bool false, .int .u8 0, .int .u8 0, .int .u32 0, .int .u32 0, .slice none 0 0, .slice none 0 0] 26)).alloc (.cells #[.int .u8 0, .int .u32 0, .int .u32 0, .int .u16 0, .int .u16 0] 28) = W := ⟨_, rfl⟩); (obtain ⟨kG, hkG⟩ : ∃ k : Nat, w2.heap.size = k := ⟨_, rfl⟩); have V3 : Below w2.heap.size w2 w3 := (by rw [← hw3]; (repeat (first | with_reducible exact Below.refl _ _ | with_reducible refine below_drew ?_ | with_reducible refine below_drewN ?_ _ | with_reducible refine below_alloc ?_ (Nat.le_refl _) _ | with_reducible refine Below.setCell ?_ (by first | exact Nat.le_refl _ | (simp only []; omega)) _ | with_reducible assumption))); have G3 : Blk w3 kG #[.int .u8 0, .int .u16 0, .bool false, .int .u8 0, .int .u8 0, .int .u32 0, .int .u32 0, .slice none 0 0, .slice none 0 0] 26 := (by rw [← hw3]; exact (blk_new w2 _ _ _ hkG).alloc _); have X3 : Blk w3 (kG + 1) #[.int .u8 0, .int .u32 0, .int .u32 0, .int .u16 0, .int .u16 0] 28 := (by rw [← hw3]; exact blk_new _ _ _ _ (by simp [hkG])); have Gc3 := G3.cell; have Xc3 := X3.cell; (obtain ⟨w4, hw4, S4⟩ := store9 G3 (.int .u8 Q.tos) (.int .u16 Q.id) (.bool Q.keep) (.int .u8 Q.ttl) (.int .u8 Q.proto) (.int .u32 Q.src) (.int .u32 Q.dst) (.slice C1 e1 f1) (.slice C2 e2 f2)); have X4 := S4.other (by omega) X3; have Xc4 := X4.cell; (obtain ⟨w5, hw5, S5⟩ := store5 X4 (.int .u8 U.proto) (.int .u32 U.src) (.int .u32 U.dst) (.int .u16 U.sp) (.int .u16 U.dp)); have Xc5 := S5.blk.cell; have B5 := S5.bel (S4.bel V3 (by omega)) (by omega); have Y3 := Y2.below B5; have Yc3 := Y3.cell; have R3 := below_then R2 B5)
  obtain ⟨wf, hwf, Sf⟩ := store5 Y3 (.int .u8 U.proto) (.int .u32 U.src) (.int .u32 U.dst) (.int .u16 U.sp) (.int .u16 U.dp)
  rw [hwf]
  have pf := Sf.blk.cell
  exact bodyPost_ret (v := .tuple #[(.agg #[.int .u8 (U).proto, .int .u32 (U).src, .int .u32 (U).dst, .int .u16 (U).sp, .int .u16 (U).dp]), .int .i64 E]) (by simp [results, Try.results15, go_sem, pf]) rfl ⟨⟨rfl, Sf.bel R3 (by omega)⟩⟩
end Go.Proofs.Ytjhpmeagopdaiaa

namespace Go.Proofs.Ytjhpmeagopdaiaa
open Go.RowKit
set_option linter.unusedVariables false
set_option linter.unusedSimpArgs false
set_option linter.unusedSimpArgs false
set_option maxHeartbeats 8000000
set_option maxRecDepth 100000

theorem mangleTells_walk (w : World) (p : Pkt) (hp : p.Ok) (A1 : Option Addr) (n1 c1 : Nat) (A2 : Option Addr) (n2 c2 : Nat) (k1 : Bs w A1 n1 c1 p.opt) (k2 : Bs w A2 n2 c2 p.dat) (z2 : n2 ≤ 140737488351232) (sa : Int) (sa0 : 0 ≤ sa) (sa1 : sa ≤ 4294967295) (sb : Int) (sb0 : 0 ≤ sb) (sb1 : sb ≤ 4294967295) (t : Tup) (ht : t.Ok) :
    Calls Try.prog 6 #[(.agg #[.int .u8 (p).tos, .int .u16 (p).id, .bool (p).keep, .int .u8 (p).ttl, .int .u8 (p).proto, .int .u32 (p).src, .int .u32 (p).dst, .slice A1 n1 c1, .slice A2 n2 c2]), .agg #[.int .u32 sa, .int .u32 sb], (.agg #[.int .u8 (t).proto, .int .u32 (t).src, .int .u32 (t).dst, .int .u16 (t).sp, .int .u16 (t).dp])] w fun e w' => e = .returned (.bool true) ∧ Below w.heap.size w w' := by
  have hr := fun W k k' => requote_any p A1 n1 c1 A2 n2 c2 W k k' z2 sa sb t ht
  have l2 := k2.len
  by_cases hE : rqE p sa sb t = 0
  case neg =>
    have hb := rq_bad hE
    have h0 : (rqE p sa sb t != 0) = true := by simpa using hE
    obtain ⟨F, hF⟩ : ∃ q, rqE p sa sb t = q := ⟨_, rfl⟩
    rw [hb, hF] at hr
    rw [hF] at h0
    have hr' : ∀ W, Bs W A1 n1 c1 p.opt → Bs W A2 n2 c2 p.dat → Calls Try.prog 14 #[(.agg #[.int .u8 (p).tos, .int .u16 (p).id, .bool (p).keep, .int .u8 (p).ttl, .int .u8 (p).proto, .int .u32 (p).src, .int .u32 (p).dst, .slice A1 n1 c1, .slice A2 n2 c2]), .int .u32 sa, .int .u32 sb, (.agg #[.int .u8 (t).proto, .int .u32 (t).src, .int .u32 (t).dst, .int .u16 (t).sp, .int .u16 (t).dp])] W fun e w' => ∃ C1 e1 f1 C2 e2 f2, e = .returned (.tuple #[.agg #[.int .u8 0, .int .u16 0, .bool false, .int .u8 0, .int .u8 0, .int .u32 0, .int .u32 0, .slice C1 e1 f1, .slice C2 e2 f2], .int .i64 F]) ∧ Bs w' C1 e1 f1 [] ∧ Bs w' C2 e2 f2 [] ∧ Below W.heap.size W w' := fun W k k' => by
      refine (hr W k k').mono fun e w' hq => ?_
      obtain ⟨C1, e1, f1, C2, e2, f2, rfl, h1, h2, h3⟩ := hq.out
      exact ⟨C1, e1, f1, C2, e2, f2, rfl, h1.bs, h2.bs, h3⟩
    have hsz : ∀ C1 e1 f1 C2 e2 f2 W, Bs W C1 e1 f1 [] → Bs W C2 e2 f2 [] → Calls Try.prog 9 #[.agg #[.int .u8 0, .int .u16 0, .bool false, .int .u8 0, .int .u8 0, .int .u32 0, .int .u32 0, .slice C1 e1 f1, .slice C2 e2 f2], .agg #[.int .u8 0, .int .u16 0, .bool false, .int .u8 0, .int .u8 0, .int .u32 0, .int .u32 0, .slice none 0 0, .slice none 0 0]] W fun e w' => e = .returned (.bool true) ∧ Below W.heap.size W w' := fun C1 e1 f1 C2 e2 f2 W a b => by
      have := rsame_any zP zP C1 e1 f1 C2 e2 f2 none 0 0 none 0 0 W a b (Bs.none_ _) (Bs.none_ _)
      rw [sameP_self] at this
      exact this
    clear hr hb hF hE hp ht l2
    obtain ⟨k, hk⟩ : ∃ k : Nat, w.heap.size = k := ⟨_, rfl⟩
    obtain ⟨w1, hw1⟩ : ∃ W, (((w.alloc (.cells #[.int .u8 (p).tos, .int .u16 (p).id, .bool (p).keep, .int .u8 (p).ttl, .int .u8 (p).proto, .int .u32 (p).src, .int .u32 (p).dst, .slice A1 n1 c1, .slice A2 n2 c2] 26)).alloc (.cells #[.int .u32 sa, .int .u32 sb] 39)).alloc (.cells #[.int .u8 (t).proto, .int .u32 (t).src, .int .u32 (t).dst, .int .u16 (t).sp, .int .u16 (t).dp] 28)) = W := ⟨_, rfl⟩
    have P1 : Blk w1 k #[.int .u8 (p).tos, .int .u16 (p).id, .bool (p).keep, .int .u8 (p).ttl, .int .u8 (p).proto, .int .u32 (p).src, .int .u32 (p).dst, .slice A1 n1 c1, .slice A2 n2 c2] 26 := by rw [← hw1]; exact (((blk_new _ _ _ k (by simp [hk])).alloc _).alloc _)
    have L1 : Blk w1 (k + 1) #[.int .u32 sa, .int .u32 sb] 39 := by rw [← hw1]; exact ((blk_new _ _ _ (k + 1) (by simp [hk])).alloc _)
    have O1 : Blk w1 (k + 1 + 1) #[.int .u8 (t).proto, .int .u32 (t).src, .int .u32 (t).dst, .int .u16 (t).sp, .int .u16 (t).dp] 28 := by rw [← hw1]; exact (blk_new _ _ _ (k + 1 + 1) (by simp [hk]))
    have R1 : Below w.heap.size w w1 := by rw [← hw1]; (repeat (first | with_reducible exact Below.refl _ _ | with_reducible refine below_drew ?_ | with_reducible refine below_drewN ?_ _ | with_reducible refine below_alloc ?_ (Nat.le_refl _) _ | with_reducible refine Below.setCell ?_ (by first | exact Nat.le_refl _ | (simp only []; omega)) _ | with_reducible assumption))
    have Pc1 := P1.cell
    have Lc1 := L1.cell
    have Oc1 := O1.cell
    have Pl1 := P1.lt
    have Ll1 := L1.lt
    have Ol1 := O1.lt
    have x1 := (k1).below R1
    have y1 := (k2).below R1
    go_enter Try.func6, Try.ntmps6
    go_wp2_with (first
      | (go_at_call 14; ((with_reducible refine (hr' w1 x1 y1).mono ?_); rintro e u2 ⟨C1, e1, f1, C2, e2, f2, rfl, o1, o2, hB2⟩); (obtain ⟨w2, hw2⟩ : ∃ W, u2.alloc (.cells #[.int .u8 0, .int .u16 0, .bool false, .int .u8 0, .int .u8 0, .int .u32 0, .int .u32 0, .slice C1 e1 f1, .slice C2 e2 f2] 26) = W := ⟨_, rfl⟩); have V2 : Below u2.heap.size u2 w2 := (by rw [← hw2]; (repeat (first | with_reducible exact Below.refl _ _ | with_reducible refine below_drew ?_ | with_reducible refine below_drewN ?_ _ | with_reducible refine below_alloc ?_ (Nat.le_refl _) _ | with_reducible refine Below.setCell ?_ (by first | exact Nat.le_refl _ | (simp only []; omega)) _ | with_reducible assumption))); (obtain ⟨kI2, hkI2⟩ : ∃ k : Nat, u2.heap.size = k := ⟨_, rfl⟩); have I2 : Blk w2 kI2 #[.int .u8 0, .int .u16 0, .bool false, .int .u8 0, .int .u8 0, .int .u32 0, .int .u32 0, .slice C1 e1 f1, .slice C2 e2 f2] 26 := (by rw [← hw2]; exact blk_new u2 _ _ _ hkI2); have Ic2 := I2.cell; have T2 := below_then hB2 V2; have z2 := (o2).below V2; have v2 := (o1).below V2; have P2 := P1.below T2; have Pc2 := P2.cell; clear Pc1; have L2 := L1.below T2; have Lc2 := L2.cell; clear Lc1; have O2 := O1.below T2; have Oc2 := O2.cell; clear Oc1; have x2 := x1.below T2; have y2 := y1.below T2; have R2 := below_then R1 T2)
      | (go_at_call 8; ((with_reducible refine (liveU_any w2).mono ?_); rintro e w3 ⟨rfl, hB3⟩); have P3 := P2.below hB3; have Pc3 := P3.cell; clear Pc2; have L3 := L2.below hB3; have Lc3 := L3.cell; clear Lc2; have O3 := O2.below hB3; have Oc3 := O3.cell; clear Oc2; have I3 := I2.below hB3; have Ic3 := I3.cell; clear Ic2; have x3 := x2.below hB3; have y3 := y2.below hB3; have z3 := z2.below hB3; have v3 := v2.below hB3; have R3 := below_then R2 hB3)
      | (go_at_call 9; ((with_reducible refine (hsz C1 e1 f1 C2 e2 f2 w3 v3 z3).mono ?_); rintro e w4 ⟨rfl, hB4⟩); have P4 := P3.below hB4; have Pc4 := P4.cell; clear Pc3; have L4 := L3.below hB4; have Lc4 := L4.cell; clear Lc3; have O4 := O3.below hB4; have Oc4 := O4.cell; clear Oc3; have I4 := I3.below hB4; have Ic4 := I4.cell; clear Ic3; have x4 := x3.below hB4; have y4 := y3.below hB4; have z4 := z3.below hB4; have v4 := v3.below hB4; have R4 := below_then R3 hB4))
    go_ret
    exact ⟨rfl, R4⟩

  have hb := rq_told ht hE
  have hQs := hb.small
  have hci := fun W k => ricmp_any p A1 n1 c1 A2 n2 c2 W k (by omega)
  rw [hb.ie] at hci
  have hcj := fun W B1 m1 d1 B2 m2 d2 k h => ricmp_any (rqP p sa sb t) B1 m1 d1 B2 m2 d2 W k h
  rw [hb.im.1, hb.im.2] at hcj
  have hq := fun W B1 m1 d1 B2 m2 d2 k h => rquo_any (rqP p sa sb t) B1 m1 d1 B2 m2 d2 W k h
  rw [hb.e, hb.tt] at hq
  have hq' : ∀ W B1 m1 d1 B2 m2 d2, Bs W B2 m2 d2 (rqP p sa sb t).dat → _ := fun W B1 m1 d1 B2 m2 d2 k => hq W B1 m1 d1 B2 m2 d2 k (by have := k.len; omega)
  have hcj' : ∀ W B1 m1 d1 B2 m2 d2, Bs W B2 m2 d2 (rqP p sa sb t).dat → _ := fun W B1 m1 d1 B2 m2 d2 k => hcj W B1 m1 d1 B2 m2 d2 k (by have := k.len; omega)
  have htd := fun W => toldU_any t W
  rw [hE] at hr
  have hlen := hb.len
  rw [hb.form] at hr hq' hcj'
  obtain ⟨U, hU⟩ : ∃ q, toldT t = q := ⟨_, rfl⟩
  rw [hU] at hq' htd
  have hms : rqM p t = ⟨(icM p).ty, (icM p).code, (icM p).rest, (rqM p t).dat⟩ := rfl
  obtain ⟨X, hX⟩ : ∃ q, (rqM p t).dat = q := ⟨_, rfl⟩
  obtain ⟨Y, hY⟩ : ∃ q, mS (rqM p t) = q := ⟨_, rfl⟩
  rw [hY] at hr hq' hcj'
  rw [hms, hX] at hcj'
  rw [hX] at hlen
  obtain ⟨s, hs⟩ : ∃ q, icM p = q := ⟨_, rfl⟩
  rw [hs] at hci hcj' hlen
  have Hlen := Lib.hid hlen
  clear hq hcj hb hQs hU hms hX hY hE hp ht l2 hlen hs
  obtain ⟨k, hk⟩ : ∃ k : Nat, w.heap.size = k := ⟨_, rfl⟩
  obtain ⟨w1, hw1⟩ : ∃ W, (((w.alloc (.cells #[.int .u8 (p).tos, .int .u16 (p).id, .bool (p).keep, .int .u8 (p).ttl, .int .u8 (p).proto, .int .u32 (p).src, .int .u32 (p).dst, .slice A1 n1 c1, .slice A2 n2 c2] 26)).alloc (.cells #[.int .u32 sa, .int .u32 sb] 39)).alloc (.cells #[.int .u8 (t).proto, .int .u32 (t).src, .int .u32 (t).dst, .int .u16 (t).sp, .int .u16 (t).dp] 28)) = W := ⟨_, rfl⟩
  have P1 : Blk w1 k #[.int .u8 (p).tos, .int .u16 (p).id, .bool (p).keep, .int .u8 (p).ttl, .int .u8 (p).proto, .int .u32 (p).src, .int .u32 (p).dst, .slice A1 n1 c1, .slice A2 n2 c2] 26 := by rw [← hw1]; exact (((blk_new _ _ _ k (by simp [hk])).alloc _).alloc _)
  have L1 : Blk w1 (k + 1) #[.int .u32 sa, .int .u32 sb] 39 := by rw [← hw1]; exact ((blk_new _ _ _ (k + 1) (by simp [hk])).alloc _)
  have O1 : Blk w1 (k + 1 + 1) #[.int .u8 (t).proto, .int .u32 (t).src, .int .u32 (t).dst, .int .u16 (t).sp, .int .u16 (t).dp] 28 := by rw [← hw1]; exact (blk_new _ _ _ (k + 1 + 1) (by simp [hk]))
  have R1 : Below w.heap.size w w1 := by rw [← hw1]; (repeat (first | with_reducible exact Below.refl _ _ | with_reducible refine below_drew ?_ | with_reducible refine below_drewN ?_ _ | with_reducible refine below_alloc ?_ (Nat.le_refl _) _ | with_reducible refine Below.setCell ?_ (by first | exact Nat.le_refl _ | (simp only []; omega)) _ | with_reducible assumption))
  have Pc1 := P1.cell
  have Lc1 := L1.cell
  have Oc1 := O1.cell
  have Pl1 := P1.lt
  have Ll1 := L1.lt
  have Ol1 := O1.lt
  have x1 := (k1).below R1
  have y1 := (k2).below R1
  go_enter Try.func6, Try.ntmps6
  go_wp2_with (first
    | (go_at_call 14; ((with_reducible refine (hr w1 x1 y1).mono ?_); rintro e u2 ⟨⟨C1, e1, f1, C2, e2, f2, rfl, o1, o2, hB2⟩⟩); (obtain ⟨w2, hw2⟩ : ∃ W, u2.alloc (.cells #[.int .u8 p.tos, .int .u16 p.id, .bool p.keep, .int .u8 p.ttl, .int .u8 1, .int .u32 sa, .int .u32 sb, .slice C1 e1 f1, .slice C2 e2 f2] 26) = W := ⟨_, rfl⟩); have V2 : Below u2.heap.size u2 w2 := (by rw [← hw2]; (repeat (first | with_reducible exact Below.refl _ _ | with_reducible refine below_drew ?_ | with_reducible refine below_drewN ?_ _ | with_reducible refine below_alloc ?_ (Nat.le_refl _) _ | with_reducible refine Below.setCell ?_ (by first | exact Nat.le_refl _ | (simp only []; omega)) _ | with_reducible assumption))); (obtain ⟨kI2, hkI2⟩ : ∃ k : Nat, u2.heap.size = k := ⟨_, rfl⟩); have I2 : Blk w2 kI2 #[.int .u8 p.tos, .int .u16 p.id, .bool p.keep, .int .u8 p.ttl, .int .u8 1, .int .u32 sa, .int .u32 sb, .slice C1 e1 f1, .slice C2 e2 f2] 26 := (by rw [← hw2]; exact blk_new u2 _ _ _ hkI2); have Ic2 := I2.cell; have T2 := below_then hB2 V2; have z2 := (o2.bs).below V2; have P2 := P1.below T2; have Pc2 := P2.cell; clear Pc1; have L2 := L1.below T2; have Lc2 := L2.cell; clear Lc1; have O2 := O1.below T2; have Oc2 := O2.cell; clear Oc1; have x2 := x1.below T2; have y2 := y1.below T2; have R2 := below_then R1 T2)
    | (go_at_call 15; ((with_reducible refine (hq' w2 C1 e1 f1 C2 e2 f2 z2).mono ?_); rintro e u3 ⟨⟨rfl, hB3⟩⟩); (obtain ⟨w3, hw3⟩ : ∃ W, u3.alloc (.cells #[.int .u8 (U).proto, .int .u32 (U).src, .int .u32 (U).dst, .int .u16 (U).sp, .int .u16 (U).dp] 28) = W := ⟨_, rfl⟩); have V3 : Below u3.heap.size u3 w3 := (by rw [← hw3]; (repeat (first | with_reducible exact Below.refl _ _ | with_reducible refine below_drew ?_ | with_reducible refine below_drewN ?_ _ | with_reducible refine below_alloc ?_ (Nat.le_refl _) _ | with_reducible refine Below.setCell ?_ (by first | exact Nat.le_refl _ | (simp only []; omega)) _ | with_reducible assumption))); (obtain ⟨kG3, hkG3⟩ : ∃ k : Nat, u3.heap.size = k := ⟨_, rfl⟩); have G3 : Blk w3 kG3 #[.int .u8 (U).proto, .int .u32 (U).src, .int .u32 (U).dst, .int .u16 (U).sp, .int .u16 (U).dp] 28 := (by rw [← hw3]; exact blk_new u3 _ _ _ hkG3); have Gc3 := G3.cell; have T3 := below_then hB3 V3; have P3 := P2.below T3; have Pc3 := P3.cell; clear Pc2; have L3 := L2.below T3; have Lc3 := L3.cell; clear Lc2; have O3 := O2.below T3; have Oc3 := O3.cell; clear Oc2; have I3 := I2.below T3; have Ic3 := I3.cell; clear Ic2; have x3 := x2.below T3; have y3 := y2.below T3; have z3 := z2.below T3; have R3 := below_then R2 T3)
    | (go_at_call 16; ((with_reducible refine (hci w3 y3).mono ?_); rintro e u4 ⟨⟨DA, dn, dc, rfl, od, hB4⟩⟩); (obtain ⟨w4, hw4⟩ : ∃ W, u4.alloc (.cells #[.int .u8 (s).ty, .int .u8 (s).code, .int .u32 (s).rest, .slice DA dn dc] 42) = W := ⟨_, rfl⟩); have V4 : Below u4.heap.size u4 w4 := (by rw [← hw4]; (repeat (first | with_reducible exact Below.refl _ _ | with_reducible refine below_drew ?_ | with_reducible refine below_drewN ?_ _ | with_reducible refine below_alloc ?_ (Nat.le_refl _) _ | with_reducible refine Below.setCell ?_ (by first | exact Nat.le_refl _ | (simp only []; omega)) _ | with_reducible assumption))); (obtain ⟨kS4, hkS4⟩ : ∃ k : Nat, u4.heap.size = k := ⟨_, rfl⟩); have S4 : Blk w4 kS4 #[.int .u8 (s).ty, .int .u8 (s).code, .int .u32 (s).rest, .slice DA dn dc] 42 := (by rw [← hw4]; exact blk_new u4 _ _ _ hkS4); have Sc4 := S4.cell; have T4 := below_then hB4 V4; have P4 := P3.below T4; have Pc4 := P4.cell; clear Pc3; have L4 := L3.below T4; have Lc4 := L4.cell; clear Lc3; have O4 := O3.below T4; have Oc4 := O4.cell; clear Oc3; have I4 := I3.below T4; have Ic4 := I4.cell; clear Ic3; have G4 := G3.below T4; have Gc4 := G4.cell; clear Gc3; have x4 := x3.below T4; have y4 := y3.below T4; have z4 := z3.below T4; have R4 := below_then R3 T4)
    | (go_at_call 16; ((with_reducible refine (hcj' w4 C1 e1 f1 C2 e2 f2 z4).mono ?_); rintro e u5 ⟨⟨EA, en, ec, rfl, oe, hB5⟩⟩); have uen : dn = en := (by rw [← od.len, ← oe.len]; exact Hlen.out.symm); subst uen; (obtain ⟨w5, hw5⟩ : ∃ W, u5.alloc (.cells #[.int .u8 s.ty, .int .u8 s.code, .int .u32 s.rest, .slice EA dn ec] 42) = W := ⟨_, rfl⟩); have V5 : Below u5.heap.size u5 w5 := (by rw [← hw5]; (repeat (first | with_reducible exact Below.refl _ _ | with_reducible refine below_drew ?_ | with_reducible refine below_drewN ?_ _ | with_reducible refine below_alloc ?_ (Nat.le_refl _) _ | with_reducible refine Below.setCell ?_ (by first | exact Nat.le_refl _ | (simp only []; omega)) _ | with_reducible assumption))); (obtain ⟨kJ5, hkJ5⟩ : ∃ k : Nat, u5.heap.size = k := ⟨_, rfl⟩); have J5 : Blk w5 kJ5 #[.int .u8 s.ty, .int .u8 s.code, .int .u32 s.rest, .slice EA dn ec] 42 := (by rw [← hw5]; exact blk_new u5 _ _ _ hkJ5); have Jc5 := J5.cell; have T5 := below_then hB5 V5; have P5 := P4.below T5; have Pc5 := P5.cell; clear Pc4; have L5 := L4.below T5; have Lc5 := L5.cell; clear Lc4; have O5 := O4.below T5; have Oc5 := O5.cell; clear Oc4; have I5 := I4.below T5; have Ic5 := I5.cell; clear Ic4; have G5 := G4.below T5; have Gc5 := G5.cell; clear Gc4; have S5 := S4.below T5; have Sc5 := S5.cell; clear Sc4; have x5 := x4.below T5; have y5 := y4.below T5; have z5 := z4.below T5; have R5 := below_then R4 T5))
  refine region_txt 62 (by kernel_rfl) (by kernel_rfl) ?_; (iterate 62 (first | (apply ObsK.skip (by rfl)) | (apply ObsK.v (by rfl); (intro wo hT; (repeat (first | (intro _ _ k; try have hcv := cv k))); (have ic := (I5.below hT).cell; have lc := (L5.below hT).cell; have oc := (O5.below hT).cell; have gc := (G5.below hT).cell; have sc := (S5.below hT).cell; have jc := (J5.below hT).cell); refine Goes.mk ?_; go_simp; first | exact goes_v | exact goes_b (by assumption) | (refine goes_enter ?_; first | (go_at_call 8; ((with_reducible refine (liveU_any wo).mono ?_); rintro e w7 ⟨rfl, hD5⟩); exact ret_v hD5) | (go_at_call 11; ((with_reducible refine (htd wo).mono ?_); rintro e w7 ⟨rfl, hD5⟩); exact ret_v hD5)))) | (apply ObsK.b (by rfl); (intro wo hT; (repeat (first | (intro _ _ k; try have hcv := cv k))); (have ic := (I5.below hT).cell; have lc := (L5.below hT).cell; have oc := (O5.below hT).cell; have gc := (G5.below hT).cell; have sc := (S5.below hT).cell; have jc := (J5.below hT).cell); refine Goes.mk ?_; go_simp; first | exact goes_v | exact goes_b (by assumption) | (refine goes_enter ?_; first | (go_at_call 8; ((with_reducible refine (liveU_any wo).mono ?_); rintro e w7 ⟨rfl, hD5⟩); exact ret_v hD5) | (go_at_call 11; ((with_reducible refine (htd wo).mono ?_); rintro e w7 ⟨rfl, hD5⟩); exact ret_v hD5)))))); refine ObsK.nil ?_; intro wz hBz; simp only [finOn, List.drop_succ_cons, List.drop_zero, List.drop_nil]
  go_simp
  go_wp2_with fail
  go_ret
  exact ⟨rfl, below_then R5 hBz⟩
end Go.Proofs.Ytjhpmeagopdaiaa

namespace Go.Proofs.Ytjhpmeagopdaiaa
open Go.ChangeShapes Go.WideShapes Go.ChangeAt Go.RowKit
set_option linter.unusedVariables false

theorem own_knob : ownKnob Try.prog.godebug = none := by kernel_rfl
theorem laid_out : laidOutB Try.prog = true := by kernel_rfl
section
variable {H : Type} {enc : TypeId × Value → H} {P : Program} {w : World} {base : Nat} {held : Bool} {spare : Nat → Bool}
theorem open_bs {t e : TypeId} {fuel : Nat} {v : Value} {x : DataW H × List MemPlace} (ht : P.underlying t = some (.slice e)) (he : P.underlying e = some (.int .u8)) (hc : P.cellsOf e = 1)
    (h : DataW.trod enc P w base spare held fuel t [v] = some x) :
    ∃ A n c l, v = .slice A n c ∧ (n ≤ 200000000000000 → Bs w A n c l) ∧ ((x.1 = .nil ∧ n = 0) ∨ ∃ es sp, x.1 = .slice es sp ∧ es.length = n) := by
  rcases open_ints ht he hc h with ⟨hcs, rfl⟩ | ⟨a, len, cap, zs, hcs, _, hl, hm, hz, rfl, hcell, hwz⟩
  · simp only [List.cons.injEq, and_true] at hcs
    subst hcs
    exact ⟨none, 0, 0, [], rfl, fun _ => Bs.none_ w, .inl ⟨rfl, rfl⟩⟩
  · simp only [List.cons.injEq, and_true] at hcs
    subst hcs
    have hzl : len ≤ zs.length := by rw [hz]; split <;> omega
    have hlen : ((zs.take len).map ub).length = len := by simp; omega
    refine ⟨some a, len, cap, (zs.take len).map ub, rfl, fun hn => ⟨hlen, hl, hn, (fun h => by cases h), fun h0 => ?_⟩, .inr ⟨_, _, rfl, by simp [lits]; omega⟩⟩
    obtain ⟨b, off, spot⟩ := a
    have hc0 := hcell 0 (by omega)
    have hspot : spot = none := by simpa [Addr.add] using World.cell?_spot hc0
    subst hspot
    refine ⟨b, off, rfl, fun j hj => ?_⟩
    have h1 := hcell j (by omega)
    have ha : (⟨b, off, none⟩ : Addr).add j = ⟨b, off + j, none⟩ := by unfold Addr.add; split <;> simp_all
    rw [ha] at h1
    rw [h1]
    have hb : 0 ≤ zs.getD j 0 ∧ zs.getD j 0 ≤ 255 := by
      have hmem : zs.getD j 0 ∈ zs := by
        rw [List.getD_eq_getElem?_getD, List.getElem?_eq_getElem (by omega)]
        exact List.getElem_mem _
      simpa [Lit.wf, IntKind.min, IntKind.max, IntKind.signed, IntKind.bits] using hwz _ hmem
    have e : zs.getD j 0 = bt ((zs.take len).map ub) j := by
      have hj' : j < zs.length := by omega
      have e1 : zs.getD j 0 = zs[j] := by rw [List.getD_eq_getElem?_getD, List.getElem?_eq_getElem hj']; rfl
      have e2 : ((zs.take len).map ub).getD j 0 = ub zs[j] := by
        rw [List.getD_eq_getElem?_getD, List.getElem?_map, List.getElem?_take, if_pos hj, List.getElem?_eq_getElem hj']
        rfl
      unfold bt
      rw [e2, ub_val, e1]
      rw [e1] at hb
      omega
    rw [e]

theorem open_arr {r : Reach} {b0 : Nat} {t e : TypeId} {k : IntKind} {n : Nat} {v : Value} {d : DataW H} {ps : List MemPlace} (ht : P.underlying t = some (.array n e)) (he : P.underlying e = some (.int k)) (hc : P.cellsOf e = 1) (hn : P.cellsOf t = n)
    (hval : Value.okWide P w r b0 t v) (hd : DataW.Trod enc P w base spare held t v d ps) :
    ∃ f : Nat → Int, v = .agg ((List.range n).map fun i => Value.int k (f i)).toArray ∧ ∀ i, i < n → (Lit.int k (f i)).wf = true := by
  unfold Value.okWide at hval
  rw [ht] at hval
  obtain ⟨cs, rfl, hcs, _⟩ := hval
  obtain ⟨fuel, hf⟩ := hd
  obtain ⟨xs, m, rfl, hx, hl, hxl, hi⟩ := DataW.trod_array ht hf
  have key : ∀ i, i < n → ∃ a, cs[i]? = some (.int k a) ∧ (Lit.int k a).wf = true := by
    intro i hin
    have h1 := hi i hin
    rw [List.getElem?_eq_getElem (by omega), hc] at h1
    obtain ⟨a, h2, _, hw⟩ := DataW.trod_int he h1
    have h3 : (((Value.agg cs).cells.toList.drop (i * 1)).take 1)[0]? = some (.int k a) := by rw [h2]; rfl
    refine ⟨a, ?_, hw⟩
    simpa [Value.cells, List.getElem?_take, List.getElem?_drop] using h3
  refine ⟨fun i => if h : i < n then (key i h).choose else 0, ?_, fun i hin => by simp only [dif_pos hin]; exact (key i hin).choose_spec.2⟩
  congr 1
  apply Array.ext_getElem?
  intro i
  by_cases hin : i < n
  · rw [(key i hin).choose_spec.1]
    simp [hin]
  · rw [Array.getElem?_eq_none (by omega)]
    simp [hin]

theorem args_stay : ∀ {ts : List TypeId} {vs : List Value} {ds : List (DataW H)} {ps : List MemPlace} {W W' : World}, laidOutB P = true → ts.all (fun t => P.readableRec t && decide (t < P.types.size)) = true →
    DataW.TrodAll enc P W 0 (fun _ => true) true ts vs ds ps → Below W.heap.size W W' → DataW.TrodAll enc P W' 0 (fun b => decide (b < W.heap.size)) true ts vs ds ps
  | [], vs, ds, ps, W, W', _, _, h, _ => by
    obtain ⟨rfl, rfl, rfl⟩ := trodAll_nil h
    exact trodAll_mk0
  | t :: ts, vs, ds, ps, W, W', hl, hr, h, hb => by
    simp only [List.all_cons, Bool.and_eq_true, decide_eq_true_eq] at hr
    obtain ⟨v, vs', d, ds', p, q, rfl, rfl, rfl, h1, h2⟩ := trodAll_cons h
    have hlt : ∀ x ∈ p, x.block < W.heap.size := by obtain ⟨m, hm⟩ := h1; exact DataW.trod_lt m _ _ _ hm
    exact trodAll_cons_mk (Below.trod hl hr.1.1 hr.1.2 h1 hb hlt) (args_stay hl (by simpa using hr.2) h2 hb)
theorem law_post {f : Func} {s : ChangeSpec} {W W' : World} {args : Array Value} {ds : List (DataW H)} {before : List MemPlace} {tb : TypeId} (hb' : P.underlying tb = some .bool) (hres : f.resultTypes = #[tb]) (hl : laidOutB P = true)
    (hr : f.params.toList.all (fun t => P.readableRec t && decide (t < P.types.size)) = true) (hvars : s.vars = [])
    (hfn : s.fn H (ds ++ []) = { results := [.lit (.bool true)], args := ds }) (hW : DataW.Whole enc P f.params.toList s.vars false W args.toList ds [] before) (hb : Below W.heap.size W W') :
    s.post enc P f false true false false W args (.bool true) W' := by
  have hW2 := hW
  obtain ⟨p, q, hA, hV, rfl, hfz, hnd⟩ := hW
  rw [hvars] at hV
  obtain ⟨_, rfl⟩ := trodVars_none hV
  refine ⟨_, _, _, [], p, [], hW2, ?_, ?_, ?_, hb.frame _, fun h => by cases h⟩
  · rw [hfn, hres]
    exact trodAll_mk1 (shut_bool hb' _)
  · rw [hfn]
    exact args_stay hl hr hA hb
  · rw [hfn, hvars]
    rfl
end
end Go.Proofs.Ytjhpmeagopdaiaa

namespace Go.Proofs.Ytjhpmeagopdaiaa
open Go.ChangeShapes Go.WideShapes Go.ChangeAt Go.RowKit Go.Deep
set_option linter.unusedVariables false
set_option maxRecDepth 100000

section
variable {H : Type} {enc : TypeId × Value → H} {P : Program} {w : World} {base : Nat} {held : Bool} {spare : Nat → Bool}
theorem open_struct {r : Reach} {b0 : Nat} {t : TypeId} {fs : Array Field} {v : Value} {d : DataW H} {ps : List MemPlace} (hs : P.underlying t = some (.struct fs)) (hone : oneCellFields P fs = true)
    (hv : Value.okWide P w r b0 t v) (h : DataW.Trod enc P w base spare held t v d ps) :
    ∃ (cs : List Value) (xs : List (DataW H × List MemPlace)) (n : Nat), v = .agg cs.toArray ∧ cs.length = P.cellsOf t ∧ d = .agg (xs.map (·.1)) ∧ xs.length = fs.size ∧
      ∀ i f, fs[i]? = some f → DataW.trod enc P w base spare held n f.type ((cs.drop i).take 1) = xs[i]? := by
  obtain ⟨cs, rfl, hsz⟩ := okWide_struct hs hv
  obtain ⟨fuel, hf⟩ := h
  obtain ⟨xs, n, _, hx, hl, hxl, hi⟩ := DataW.trod_struct hs hf
  simp only [Prod.mk.injEq] at hx
  refine ⟨cs.toList, xs, n, by simp, by simpa using hsz, hx.1, hxl, fun i f hfi => ?_⟩
  have h1 := hi i f hfi
  obtain ⟨o, k⟩ := hone_of hone i f hfi
  simpa [Value.cells, o, k] using h1
theorem list9 {α : Type} {l : List α} (h : l.length = 9) : ∃ a b c d e f g i j, l = [a, b, c, d, e, f, g, i, j] := by
  match l, h with
  | [a, b, c, d, e, f, g, i, j], _ => exact ⟨a, b, c, d, e, f, g, i, j, rfl⟩
theorem trod_byte {t : TypeId} {n : Nat} {v : Value} {y : DataW H × List MemPlace} (ht : P.underlying t = some (.int .u8)) (h : DataW.trod enc P w base spare held n t [v] = some y) : ∃ a, v = .int .u8 a ∧ 0 ≤ a ∧ a ≤ 255 := by
  obtain ⟨a, e, -, hw⟩ := DataW.trod_int ht h
  injection e with e
  exact ⟨a, e, by simpa [Lit.wf, IntKind.min, IntKind.max, IntKind.signed, IntKind.bits] using hw⟩
theorem trod_u16 {t : TypeId} {n : Nat} {v : Value} {y : DataW H × List MemPlace} (ht : P.underlying t = some (.int .u16)) (h : DataW.trod enc P w base spare held n t [v] = some y) : ∃ a, v = .int .u16 a ∧ 0 ≤ a ∧ a ≤ 65535 := by
  obtain ⟨a, e, -, hw⟩ := DataW.trod_int ht h
  injection e with e
  exact ⟨a, e, by simpa [Lit.wf, IntKind.min, IntKind.max, IntKind.signed, IntKind.bits] using hw⟩
theorem trod_u32 {t : TypeId} {n : Nat} {v : Value} {y : DataW H × List MemPlace} (ht : P.underlying t = some (.int .u32)) (h : DataW.trod enc P w base spare held n t [v] = some y) : ∃ a, v = .int .u32 a ∧ 0 ≤ a ∧ a ≤ 4294967295 := by
  obtain ⟨a, e, -, hw⟩ := DataW.trod_int ht h
  injection e with e
  exact ⟨a, e, by simpa [Lit.wf, IntKind.min, IntKind.max, IntKind.signed, IntKind.bits] using hw⟩
theorem trod_yes {t : TypeId} {n : Nat} {v : Value} {y : DataW H × List MemPlace} (ht : P.underlying t = some .bool) (h : DataW.trod enc P w base spare held n t [v] = some y) : ∃ b, v = .bool b := by
  obtain ⟨b, e, -⟩ := DataW.trod_bool ht h
  injection e with e
  exact ⟨b, e⟩
theorem weights_field {t : TypeId} {fs : Array Field} {parts : List (DataW H)} {j : Nat} {f : Field} {y : DataW H} (hs : P.underlying t = some (.struct fs)) (hsz : ∀ m ∈ (DataW.agg parts).weights P t, m ≤ reachBytes) (hf : fs[j]? = some f) (hy : parts[j]? = some y) :
    ∀ m ∈ y.weights P f.type, m ≤ reachBytes := by
  intro m hm
  refine hsz m ?_
  rw [DataW.weights, hs]
  exact DataW.weights_mem_each (j := j) (by simp [hf]) hy m hm
end
section
variable {H : Type} {enc : TypeId × Value → H} {w : World} {base : Nat} {held : Bool} {spare : Nat → Bool}
end
end Go.Proofs.Ytjhpmeagopdaiaa

namespace Go.Proofs.Ytjhpmeagopdaiaa
open Go.ChangeShapes Go.WideShapes Go.ChangeAt Go.RowKit Go.Deep
set_option linter.unusedVariables false

section
variable {H : Type} {enc : TypeId × Value → H} {P : Program} {w : World} {base : Nat} {held : Bool} {spare : Nat → Bool}
theorem slice_smallT {t e : TypeId} {n : Nat} {y : DataW H} (ht : P.underlying t = some (.slice e)) (hb : P.bytesOf e = 1) (hw : ∀ m ∈ y.weights P t, m ≤ reachBytes) (hd : (y = .nil ∧ n = 0) ∨ ∃ es sp, y = .slice es sp ∧ es.length = n) : n ≤ 140737488351232 := by
  rcases hd with ⟨_, h⟩ | ⟨es, sp, rfl, hn⟩
  · omega
  · have h1 := hw ((es.length + sp.length) * P.bytesOf e) (by simp [DataW.weights, ht])
    rw [hb] at h1
    simp only [reachBytes] at h1
    omega
theorem trod_bytesT {t e : TypeId} {n : Nat} {v : Value} {y : DataW H × List MemPlace} (ht : P.underlying t = some (.slice e)) (he : P.underlying e = some (.int .u8)) (hc : P.cellsOf e = 1) (hb : P.bytesOf e = 1)
    (hw : ∀ m ∈ y.1.weights P t, m ≤ reachBytes) (h : DataW.trod enc P w base spare held n t [v] = some y) : ∃ A n c l, v = .slice A n c ∧ Bs w A n c l ∧ n ≤ 140737488351232 := by
  obtain ⟨A, n, c, l, hv, hbs, hd⟩ := open_bs ht he hc h
  have hs := slice_smallT ht hb hw hd
  exact ⟨A, n, c, l, hv, hbs (by omega), hs⟩
end
end Go.Proofs.Ytjhpmeagopdaiaa

namespace Go.Proofs.Ytjhpmeagopdaiaa
open Go.ChangeShapes Go.WideShapes Go.ChangeAt Go.RowKit Go.Deep
set_option linter.unusedVariables false
set_option maxRecDepth 100000

section
variable {H : Type} {enc : TypeId × Value → H} {w : World} {base : Nat} {held : Bool} {spare : Nat → Bool}
end
end Go.Proofs.Ytjhpmeagopdaiaa

namespace Go.Proofs.Ytjhpmeagopdaiaa
open Go.ChangeShapes Go.WideShapes Go.ChangeAt Go.RowKit Go.Deep
set_option linter.unusedVariables false
set_option maxRecDepth 100000

section
variable {H : Type} {enc : TypeId × Value → H} {w : World} {base : Nat} {held : Bool} {spare : Nat → Bool}
theorem list5 {α : Type} {l : List α} (h : l.length = 5) : ∃ a b c d e, l = [a, b, c, d, e] := by
  match l, h with
  | [a, b, c, d, e], _ => exact ⟨a, b, c, d, e, rfl⟩
theorem open_tup {r : Reach} {b0 : Nat} {v : Value} {d : DataW H} {ps : List MemPlace} (hval : Value.okWide Try.prog w r b0 28 v) (hd : DataW.Trod enc Try.prog w base spare held 28 v d ps)
    (hsz : ∀ m ∈ d.weights Try.prog 28, m ≤ reachBytes) :
    ∃ (t : Tup), v = (.agg #[.int .u8 (t).proto, .int .u32 (t).src, .int .u32 (t).dst, .int .u16 (t).sp, .int .u16 (t).dp]) ∧ t.Ok := by
  have hu := Try.underlying28
  obtain ⟨cs, xs, n, rfl, hcl, rfl, hxl, hi⟩ := open_struct hu (by kernel_rfl) hval hd
  rw [show (Try.prog.cellsOf 28) = 5 from by kernel_rfl] at hcl
  obtain ⟨v0, v1, v2, v3, v4, rfl⟩ := list5 hcl
  obtain ⟨y0, y1, y2, y3, y4, rfl⟩ := list5 (by simpa using hxl)
  obtain ⟨a0, rfl, b0l, b0h⟩ := trod_byte (t := 5) Try.underlying5 (by simpa using hi 0 _ rfl)
  obtain ⟨a1, rfl, b1l, b1h⟩ := trod_u32 (t := 23) Try.underlying23 (by simpa using hi 1 _ rfl)
  obtain ⟨a2, rfl, b2l, b2h⟩ := trod_u32 (t := 23) Try.underlying23 (by simpa using hi 2 _ rfl)
  obtain ⟨a3, rfl, b3l, b3h⟩ := trod_u16 (t := 22) Try.underlying22 (by simpa using hi 3 _ rfl)
  obtain ⟨a4, rfl, b4l, b4h⟩ := trod_u16 (t := 22) Try.underlying22 (by simpa using hi 4 _ rfl)
  exact ⟨⟨a0, a1, a2, a3, a4⟩, rfl, ⟨⟨b0l, b0h⟩, ⟨b1l, b1h⟩, ⟨b2l, b2h⟩, ⟨b3l, b3h⟩, ⟨b4l, b4h⟩⟩⟩
end
end Go.Proofs.Ytjhpmeagopdaiaa

namespace Go.Proofs.Ytjhpmeagopdaiaa
open Go.ChangeShapes Go.WideShapes Go.ChangeAt Go.RowKit Go.Deep
set_option linter.unusedVariables false
set_option maxRecDepth 100000

section
variable {H : Type} {enc : TypeId × Value → H} {w : World} {base : Nat} {held : Bool} {spare : Nat → Bool}
theorem open_pktM {r : Reach} {b0 : Nat} {v : Value} {d : DataW H} {ps : List MemPlace} (hval : Value.okWide Try.prog w r b0 26 v) (hd : DataW.Trod enc Try.prog w base spare held 26 v d ps)
    (hsz : ∀ m ∈ d.weights Try.prog 26, m ≤ reachBytes) :
    ∃ (p : Pkt) (A1 : Option Addr) (n1 c1 : Nat) (A2 : Option Addr) (n2 c2 : Nat), v = (.agg #[.int .u8 (p).tos, .int .u16 (p).id, .bool (p).keep, .int .u8 (p).ttl, .int .u8 (p).proto, .int .u32 (p).src, .int .u32 (p).dst, .slice A1 n1 c1, .slice A2 n2 c2]) ∧ p.Ok ∧ Bs w A1 n1 c1 p.opt ∧ Bs w A2 n2 c2 p.dat ∧ n1 ≤ 140737488351232 ∧ n2 ≤ 140737488351232 := by
  have hu := Try.underlying26
  obtain ⟨cs, xs, n, rfl, hcl, rfl, hxl, hi⟩ := open_struct hu (by kernel_rfl) hval hd
  rw [show (Try.prog.cellsOf 26) = 9 from by kernel_rfl] at hcl
  obtain ⟨v0, v1, v2, v3, v4, v5, v6, v7, v8, rfl⟩ := list9 hcl
  obtain ⟨y0, y1, y2, y3, y4, y5, y6, y7, y8, rfl⟩ := list9 (by simpa using hxl)
  obtain ⟨a0, rfl, b0l, b0h⟩ := trod_byte (t := 5) Try.underlying5 (by simpa using hi 0 _ rfl)
  obtain ⟨a1, rfl, b1l, b1h⟩ := trod_u16 (t := 22) Try.underlying22 (by simpa using hi 1 _ rfl)
  obtain ⟨a2, rfl⟩ := trod_yes (t := 4) Try.underlying4 (by simpa using hi 2 _ rfl)
  obtain ⟨a3, rfl, b3l, b3h⟩ := trod_byte (t := 5) Try.underlying5 (by simpa using hi 3 _ rfl)
  obtain ⟨a4, rfl, b4l, b4h⟩ := trod_byte (t := 5) Try.underlying5 (by simpa using hi 4 _ rfl)
  obtain ⟨a5, rfl, b5l, b5h⟩ := trod_u32 (t := 23) Try.underlying23 (by simpa using hi 5 _ rfl)
  obtain ⟨a6, rfl, b6l, b6h⟩ := trod_u32 (t := 23) Try.underlying23 (by simpa using hi 6 _ rfl)
  obtain ⟨A1, n1, c1, l1, rfl, k1, h1⟩ := trod_bytesT (t := 24) Try.underlying24 Try.underlying5 (by kernel_rfl) (by kernel_rfl) (weights_field (j := 7) (y := y7.1) hu hsz rfl (by simp)) (by simpa using hi 7 _ rfl)
  obtain ⟨A2, n2, c2, l2, rfl, k2, h2⟩ := trod_bytesT (t := 24) Try.underlying24 Try.underlying5 (by kernel_rfl) (by kernel_rfl) (weights_field (j := 8) (y := y8.1) hu hsz rfl (by simp)) (by simpa using hi 8 _ rfl)
  exact ⟨⟨a0, a1, a2, a3, a4, a5, a6, l1, l2⟩, A1, n1, c1, A2, n2, c2, rfl, ⟨⟨b0l, b0h⟩, ⟨b1l, b1h⟩, ⟨b3l, b3h⟩, ⟨b4l, b4h⟩, ⟨b5l, b5h⟩, ⟨b6l, b6h⟩⟩, k1, k2, h1, h2⟩
end
end Go.Proofs.Ytjhpmeagopdaiaa


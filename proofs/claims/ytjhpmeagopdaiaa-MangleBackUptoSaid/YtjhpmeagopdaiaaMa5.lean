/- Parts of the proofs of this seat, laid together. -/
import Derived.BigRegion
import Derived.WalkLawsBesides
import Derived.Defers
import Derived.Recover
import Derived.WideLaws
import Derived.RegionTactic
import Derived.Test.YtjhpmeagopdaiaaRows
import Derived.WalkKit
import Derived.ProofKit
import Derived.OpenShut
import Derived.ChangeOld
import Derived.Below
import Derived.SizedLaws
import Derived.JoinedCond
import Derived.Deep.Fields
import Derived.Test.YtjhpmeagopdaiaaMa4
namespace Go.Proofs.Ytjhpmeagopdaiaa
open Go.RowKit
set_option linter.unusedVariables false
set_option linter.unusedSimpArgs false
set_option linter.unusedSimpArgs false
set_option maxHeartbeats 8000000
set_option maxRecDepth 100000

theorem rtcp_no (p : Pkt) (hp : p.Ok) (A1 : Option Addr) (n1 c1 : Nat) (A2 : Option Addr) (n2 c2 : Nat) (w : World) (k2 : Bs w A2 n2 c2 p.dat) (E x q : Int) (hd : Nat) (hx : bt p.dat 12 = x) (hq : x / 16 = q) (hh : q * 4 = (hd : Int))
    (h : (E = 12 ∧ (p.proto != 6) = true) ∨ (E = 3 ∧ (p.proto != 6) = false ∧ (n2 : Int) < 20) ∨ (E = 4 ∧ (p.proto != 6) = false ∧ 20 ≤ (n2 : Int) ∧ (hd : Int) < 20) ∨ (E = 4 ∧ (p.proto != 6) = false ∧ 20 ≤ (n2 : Int) ∧ 20 ≤ (hd : Int) ∧ (x % 16 != 0) = true) ∨
      (E = 3 ∧ (p.proto != 6) = false ∧ 20 ≤ (n2 : Int) ∧ 20 ≤ (hd : Int) ∧ (x % 16 != 0) = false ∧ (n2 : Int) < (hd : Int)) ∨ (E = 5 ∧ (p.proto != 6) = false ∧ 20 ≤ (n2 : Int) ∧ 20 ≤ (hd : Int) ∧ (x % 16 != 0) = false ∧ (hd : Int) ≤ (n2 : Int) ∧ (psum p 6 p.dat == 0) = false ∧ n2 ≤ 17592186044400)) :
    Calls Try.prog 23 #[(.agg #[.int .u8 (p).tos, .int .u16 (p).id, .bool (p).keep, .int .u8 (p).ttl, .int .u8 (p).proto, .int .u32 (p).src, .int .u32 (p).dst, .slice A1 n1 c1, .slice A2 n2 c2])] w (TcPost w zS E) := by
  have b2 := k2.max
  have x0 : 0 ≤ x := by rw [← hx]; exact bt_lo _ _
  have x1' : x ≤ 255 := by rw [← hx]; exact bt_hi _ _
  have q0 : 0 ≤ q := by omega
  have q1 : q ≤ 15 := by omega
  have hlo : 20 ≤ (n2 : Int) → ∃ b off, A2 = some ⟨b, off, none⟩ := fun h => k2.some_ (by omega)
  obtain ⟨s, hs⟩ : ∃ s, psum p 6 p.dat = s := ⟨_, rfl⟩
  have cs : ∀ W, Bs W A2 n2 c2 p.dat → n2 ≤ 17592186044400 → Calls Try.prog 52 #[(.agg #[.int .u8 (p).tos, .int .u16 (p).id, .bool (p).keep, .int .u8 (p).ttl, .int .u8 (p).proto, .int .u32 (p).src, .int .u32 (p).dst, .slice A1 n1 c1, .slice A2 n2 c2]), .int .u8 6, .slice A2 n2 c2] W fun e w' => e = .returned (.int .u16 s) ∧ Below W.heap.size W w' := fun W k h => by rw [← hs]; exact rssum_any p hp A1 n1 c1 A2 n2 c2 6 (by omega) (by omega) A2 n2 c2 p.dat W k h
  rw [hs] at h
  clear hs
  obtain ⟨k, hk⟩ : ∃ k : Nat, w.heap.size = k := ⟨_, rfl⟩
  obtain ⟨w1, hw1⟩ : ∃ W, ((w.alloc (.cells #[.int .u8 (p).tos, .int .u16 (p).id, .bool (p).keep, .int .u8 (p).ttl, .int .u8 (p).proto, .int .u32 (p).src, .int .u32 (p).dst, .slice A1 n1 c1, .slice A2 n2 c2] 26)).alloc (.cells #[.int .u16 0, .int .u16 0, .int .u32 0, .int .u32 0, .int .u8 0, .int .u16 0, .int .u16 0, .slice none 0 0, .slice none 0 0] 55)) = W := ⟨_, rfl⟩
  have P1 : Blk w1 k #[.int .u8 (p).tos, .int .u16 (p).id, .bool (p).keep, .int .u8 (p).ttl, .int .u8 (p).proto, .int .u32 (p).src, .int .u32 (p).dst, .slice A1 n1 c1, .slice A2 n2 c2] 26 := by rw [← hw1]; exact ((blk_new _ _ _ k (by simp [hk])).alloc _)
  have Z1 : Blk w1 (k + 1) #[.int .u16 0, .int .u16 0, .int .u32 0, .int .u32 0, .int .u8 0, .int .u16 0, .int .u16 0, .slice none 0 0, .slice none 0 0] 55 := by rw [← hw1]; exact (blk_new _ _ _ (k + 1) (by simp [hk]))
  have R1 : Below w.heap.size w w1 := by rw [← hw1]; (repeat (first | with_reducible exact Below.refl _ _ | with_reducible refine below_drew ?_ | with_reducible refine below_drewN ?_ _ | with_reducible refine below_alloc ?_ (Nat.le_refl _) _ | with_reducible refine Below.setCell ?_ (by first | exact Nat.le_refl _ | (simp only []; omega)) _ | with_reducible assumption))
  have Pc1 := P1.cell
  have Zc1 := Z1.cell
  have Pl1 := P1.lt
  have Zl1 := Z1.lt
  have x1 := (k2).below R1
  rcases h with ⟨rfl, h1⟩ | ⟨rfl, h1, h2⟩ | ⟨rfl, h1, h2, h3⟩ | ⟨rfl, h1, h2, h3, h4⟩ | ⟨rfl, h1, h2, h3, h4, h5⟩ | ⟨rfl, h1, h2, h3, h4, h5, h6, h7⟩
  · skip
    clear hx hlo
    go_enter Try.func23, Try.ntmps23
    go_wp2_with fail
    obtain ⟨wf, hwf, Sf⟩ := store9 Z1 (.int .u16 0) (.int .u16 0) (.int .u32 0) (.int .u32 0) (.int .u8 0) (.int .u16 0) (.int .u16 0) (.slice none 0 0) (.slice none 0 0)
    rw [hwf]
    have pf := Sf.blk.cell
    exact bodyPost_ret (v := .tuple #[.agg #[.int .u16 0, .int .u16 0, .int .u32 0, .int .u32 0, .int .u8 0, .int .u16 0, .int .u16 0, .slice none 0 0, .slice none 0 0], .int .i64 12]) (by simp [results, Try.results23, go_sem, pf]) rfl (tcPost_no (Sf.bel R1 (by omega)))

  · skip
    clear hx hlo
    go_enter Try.func23, Try.ntmps23
    go_wp2_with fail
    obtain ⟨wf, hwf, Sf⟩ := store9 Z1 (.int .u16 0) (.int .u16 0) (.int .u32 0) (.int .u32 0) (.int .u8 0) (.int .u16 0) (.int .u16 0) (.slice none 0 0) (.slice none 0 0)
    rw [hwf]
    have pf := Sf.blk.cell
    exact bodyPost_ret (v := .tuple #[.agg #[.int .u16 0, .int .u16 0, .int .u32 0, .int .u32 0, .int .u8 0, .int .u16 0, .int .u16 0, .slice none 0 0, .slice none 0 0], .int .i64 3]) (by simp [results, Try.results23, go_sem, pf]) rfl (tcPost_no (Sf.bel R1 (by omega)))

  · skip
    obtain ⟨b, off, rfl⟩ := hlo h2
    have c12 := x1.at_ (j := 12) (by omega)
    rw [hx] at c12
    clear hx hlo
    go_enter Try.func23, Try.ntmps23
    go_wp2_with fail
    obtain ⟨wf, hwf, Sf⟩ := store9 Z1 (.int .u16 0) (.int .u16 0) (.int .u32 0) (.int .u32 0) (.int .u8 0) (.int .u16 0) (.int .u16 0) (.slice none 0 0) (.slice none 0 0)
    rw [hwf]
    have pf := Sf.blk.cell
    exact bodyPost_ret (v := .tuple #[.agg #[.int .u16 0, .int .u16 0, .int .u32 0, .int .u32 0, .int .u8 0, .int .u16 0, .int .u16 0, .slice none 0 0, .slice none 0 0], .int .i64 4]) (by simp [results, Try.results23, go_sem, pf]) rfl (tcPost_no (Sf.bel R1 (by omega)))

  · skip
    obtain ⟨b, off, rfl⟩ := hlo h2
    have c12 := x1.at_ (j := 12) (by omega)
    rw [hx] at c12
    clear hx hlo
    go_enter Try.func23, Try.ntmps23
    go_wp2_with fail
    obtain ⟨wf, hwf, Sf⟩ := store9 Z1 (.int .u16 0) (.int .u16 0) (.int .u32 0) (.int .u32 0) (.int .u8 0) (.int .u16 0) (.int .u16 0) (.slice none 0 0) (.slice none 0 0)
    rw [hwf]
    have pf := Sf.blk.cell
    exact bodyPost_ret (v := .tuple #[.agg #[.int .u16 0, .int .u16 0, .int .u32 0, .int .u32 0, .int .u8 0, .int .u16 0, .int .u16 0, .slice none 0 0, .slice none 0 0], .int .i64 4]) (by simp [results, Try.results23, go_sem, pf]) rfl (tcPost_no (Sf.bel R1 (by omega)))

  · skip
    obtain ⟨b, off, rfl⟩ := hlo h2
    have c12 := x1.at_ (j := 12) (by omega)
    rw [hx] at c12
    clear hx hlo
    go_enter Try.func23, Try.ntmps23
    go_wp2_with fail
    obtain ⟨wf, hwf, Sf⟩ := store9 Z1 (.int .u16 0) (.int .u16 0) (.int .u32 0) (.int .u32 0) (.int .u8 0) (.int .u16 0) (.int .u16 0) (.slice none 0 0) (.slice none 0 0)
    rw [hwf]
    have pf := Sf.blk.cell
    exact bodyPost_ret (v := .tuple #[.agg #[.int .u16 0, .int .u16 0, .int .u32 0, .int .u32 0, .int .u8 0, .int .u16 0, .int .u16 0, .slice none 0 0, .slice none 0 0], .int .i64 3]) (by simp [results, Try.results23, go_sem, pf]) rfl (tcPost_no (Sf.bel R1 (by omega)))

  · skip
    obtain ⟨b, off, rfl⟩ := hlo h2
    have c12 := x1.at_ (j := 12) (by omega)
    rw [hx] at c12
    clear hx hlo
    go_enter Try.func23, Try.ntmps23
    have h6' : (s != 0) = true := by simpa using h6
    go_wp2_with (go_at_call 52; ((with_reducible refine (cs w1 x1 h7).mono ?_); rintro e w2 ⟨rfl, hB2⟩); have P2 := P1.below hB2; have Pc2 := P2.cell; clear Pc1; have Z2 := Z1.below hB2; have Zc2 := Z2.cell; clear Zc1; have x2 := x1.below hB2; have R2 := below_then R1 hB2)
    obtain ⟨wf, hwf, Sf⟩ := store9 Z2 (.int .u16 0) (.int .u16 0) (.int .u32 0) (.int .u32 0) (.int .u8 0) (.int .u16 0) (.int .u16 0) (.slice none 0 0) (.slice none 0 0)
    rw [hwf]
    have pf := Sf.blk.cell
    exact bodyPost_ret (v := .tuple #[.agg #[.int .u16 0, .int .u16 0, .int .u32 0, .int .u32 0, .int .u8 0, .int .u16 0, .int .u16 0, .slice none 0 0, .slice none 0 0], .int .i64 5]) (by simp [results, Try.results23, go_sem, pf]) rfl (tcPost_no (Sf.bel R2 (by omega)))

theorem rtcp_bad (p : Pkt) (hp : p.Ok) (A1 : Option Addr) (n1 c1 : Nat) (A2 : Option Addr) (n2 c2 : Nat) (w : World) (k2 : Bs w A2 n2 c2 p.dat) (x q : Int) (hd : Nat) (hx : bt p.dat 12 = x) (hq : x / 16 = q) (hh : q * 4 = (hd : Int))
    (h1 : (p.proto != 6) = false) (h2 : 20 ≤ (n2 : Int)) (h3 : 20 ≤ (hd : Int)) (h4 : (x % 16 != 0) = false) (h5 : (hd : Int) ≤ (n2 : Int)) (h6 : (psum p 6 p.dat == 0) = true) (h7 : n2 ≤ 17592186044400) (ho : optsP ((p.dat.take hd).drop 20) = none) :
    Calls Try.prog 23 #[(.agg #[.int .u8 (p).tos, .int .u16 (p).id, .bool (p).keep, .int .u8 (p).ttl, .int .u8 (p).proto, .int .u32 (p).src, .int .u32 (p).dst, .slice A1 n1 c1, .slice A2 n2 c2])] w (TcPost w zS 4) := by
  have b2 := k2.max
  have hcap := k2.cap
  have x0 : 0 ≤ x := by rw [← hx]; exact bt_lo _ _
  have x1' : x ≤ 255 := by rw [← hx]; exact bt_hi _ _
  have q0 : 0 ≤ q := by omega
  have q1 : q ≤ 15 := by omega
  have hdb : (hd : Int) ≤ 60 := by omega
  have hlL : p.dat.take n2 = p.dat := List.take_of_length_le (by rw [k2.len]; exact Nat.le_refl _)
  obtain ⟨i8, hi8, -, hs8, -⟩ := info_parts info_u8
  obtain ⟨b, off, rfl⟩ := k2.some_ (by omega)
  have hcutO : ∀ W, (Instr.slice 24 (.slice (some ⟨b, off, none⟩) n2 c2) (some (.int .i64 20)) (some (.int .i64 (hd : Int))) none).run Try.prog W = _ := fun W => cut_lh Try.underlying24 hi8 hs8 (some ⟨b, off, none⟩) n2 c2 .i64 .i64 20 hd (by omega) (by omega) (by omega) W
  obtain ⟨A', n', c', eA, en, ec, hbO⟩ := k2.cutE (lo := 20) (hi := hd) (by omega) (by omega)
  simp only [show (20 : Int).toNat = 20 from rfl, show ((hd : Int)).toNat = hd from rfl, eA, en, ec] at hcutO
  have hn' : n' ≤ 40 := by omega
  clear eA ec
  clear hlL en
  have h6' : psum p 6 p.dat = 0 := by simpa using h6
  have cs : ∀ W, Bs W (some ⟨b, off, none⟩) n2 c2 p.dat → Calls Try.prog 52 #[(.agg #[.int .u8 (p).tos, .int .u16 (p).id, .bool (p).keep, .int .u8 (p).ttl, .int .u8 (p).proto, .int .u32 (p).src, .int .u32 (p).dst, .slice A1 n1 c1, .slice (some ⟨b, off, none⟩) n2 c2]), .int .u8 6, .slice (some ⟨b, off, none⟩) n2 c2] W fun e w' => e = .returned (.int .u16 0) ∧ Below W.heap.size W w' := fun W k => by
    have := rssum_any p hp A1 n1 c1 (some ⟨b, off, none⟩) n2 c2 6 (by omega) (by omega) (some ⟨b, off, none⟩) n2 c2 p.dat W k h7
    rw [h6'] at this; exact this
  clear h6 h6'
  have co : ∀ W, Bs W A' n' c' ((p.dat.take hd).drop 20) → Calls Try.prog 54 #[.slice A' n' c'] W fun e w' => ∃ A n c, e = .returned (.tuple #[.slice A n c, .bool false]) ∧ Below W.heap.size W w' := fun W k => by
    refine (roptsP_any A' n' c' _ W k hn').mono fun e w' hq => ?_
    obtain ⟨A, n, c, rfl, -, hB⟩ := hq.out
    rw [ho]
    exact ⟨A, n, c, rfl, hB⟩
  clear ho
  have c12' := fun W (h : Bs W (some ⟨b, off, none⟩) n2 c2 p.dat) => h.at_ (j := 12) (by omega)
  simp only [hx] at c12'
  clear hx
  obtain ⟨k, hk⟩ : ∃ k : Nat, w.heap.size = k := ⟨_, rfl⟩
  obtain ⟨w1, hw1⟩ : ∃ W, ((w.alloc (.cells #[.int .u8 (p).tos, .int .u16 (p).id, .bool (p).keep, .int .u8 (p).ttl, .int .u8 (p).proto, .int .u32 (p).src, .int .u32 (p).dst, .slice A1 n1 c1, .slice (some ⟨b, off, none⟩) n2 c2] 26)).alloc (.cells #[.int .u16 0, .int .u16 0, .int .u32 0, .int .u32 0, .int .u8 0, .int .u16 0, .int .u16 0, .slice none 0 0, .slice none 0 0] 55)) = W := ⟨_, rfl⟩
  have P1 : Blk w1 k #[.int .u8 (p).tos, .int .u16 (p).id, .bool (p).keep, .int .u8 (p).ttl, .int .u8 (p).proto, .int .u32 (p).src, .int .u32 (p).dst, .slice A1 n1 c1, .slice (some ⟨b, off, none⟩) n2 c2] 26 := by rw [← hw1]; exact ((blk_new _ _ _ k (by simp [hk])).alloc _)
  have Z1 : Blk w1 (k + 1) #[.int .u16 0, .int .u16 0, .int .u32 0, .int .u32 0, .int .u8 0, .int .u16 0, .int .u16 0, .slice none 0 0, .slice none 0 0] 55 := by rw [← hw1]; exact (blk_new _ _ _ (k + 1) (by simp [hk]))
  have R1 : Below w.heap.size w w1 := by rw [← hw1]; (repeat (first | with_reducible exact Below.refl _ _ | with_reducible refine below_drew ?_ | with_reducible refine below_drewN ?_ _ | with_reducible refine below_alloc ?_ (Nat.le_refl _) _ | with_reducible refine Below.setCell ?_ (by first | exact Nat.le_refl _ | (simp only []; omega)) _ | with_reducible assumption))
  have Pc1 := P1.cell
  have Zc1 := Z1.cell
  have Pl1 := P1.lt
  have Zl1 := Z1.lt
  have x1 := (k2).below R1
  have y1 := (hbO).below R1
  have c12 := c12' _ x1
  go_enter Try.func23, Try.ntmps23
  go_wp2_with (first
    | (go_at_call 52; ((with_reducible refine (cs w1 x1).mono ?_); rintro e w2 ⟨rfl, hB2⟩); have P2 := P1.below hB2; have Pc2 := P2.cell; clear Pc1; have Z2 := Z1.below hB2; have Zc2 := Z2.cell; clear Zc1; have x2 := x1.below hB2; have y2 := y1.below hB2; have R2 := below_then R1 hB2)
    | (go_at_call 54; ((with_reducible refine (co w2 y2).mono ?_); rintro e w3 ⟨A6, n6, c6, rfl, hB3⟩); have P3 := P2.below hB3; have Pc3 := P3.cell; clear Pc2; have Z3 := Z2.below hB3; have Zc3 := Z3.cell; clear Zc2; have x3 := x2.below hB3; have y3 := y2.below hB3; have R3 := below_then R2 hB3))
  obtain ⟨wf, hwf, Sf⟩ := store9 Z3 (.int .u16 0) (.int .u16 0) (.int .u32 0) (.int .u32 0) (.int .u8 0) (.int .u16 0) (.int .u16 0) (.slice none 0 0) (.slice none 0 0)
  rw [hwf]
  have pf := Sf.blk.cell
  exact bodyPost_ret (v := .tuple #[.agg #[.int .u16 0, .int .u16 0, .int .u32 0, .int .u32 0, .int .u8 0, .int .u16 0, .int .u16 0, .slice none 0 0, .slice none 0 0], .int .i64 4]) (by simp [results, Try.results23, go_sem, pf]) rfl (tcPost_no (Sf.bel R3 (by omega)))

theorem rtcp_go (p : Pkt) (hp : p.Ok) (A1 : Option Addr) (n1 c1 : Nat) (A2 : Option Addr) (n2 c2 : Nat) (w : World) (k2 : Bs w A2 n2 c2 p.dat) (x q : Int) (hd : Nat) (hx : bt p.dat 12 = x) (hq : x / 16 = q) (hh : q * 4 = (hd : Int))
    (h1 : (p.proto != 6) = false) (h2 : 20 ≤ (n2 : Int)) (h3 : 20 ≤ (hd : Int)) (h4 : (x % 16 != 0) = false) (h5 : (hd : Int) ≤ (n2 : Int)) (h6 : (psum p 6 p.dat == 0) = true) (h7 : n2 ≤ 17592186044400) (os : List Opt) (ho : optsP ((p.dat.take hd).drop 20) = some os) :
    Calls Try.prog 23 #[(.agg #[.int .u8 (p).tos, .int .u16 (p).id, .bool (p).keep, .int .u8 (p).ttl, .int .u8 (p).proto, .int .u32 (p).src, .int .u32 (p).dst, .slice A1 n1 c1, .slice A2 n2 c2])] w (TcPost w ⟨get16 p.dat 0, get16 p.dat 2, get32 p.dat 4, get32 p.dat 8, bt p.dat 13, get16 p.dat 14, get16 p.dat 18, os, p.dat.drop hd⟩ 0) := by
  have b2 := k2.max
  have hcap := k2.cap
  have x0 : 0 ≤ x := by rw [← hx]; exact bt_lo _ _
  have x1' : x ≤ 255 := by rw [← hx]; exact bt_hi _ _
  have q0 : 0 ≤ q := by omega
  have q1 : q ≤ 15 := by omega
  have hdb : (hd : Int) ≤ 60 := by omega
  have hlL : p.dat.take n2 = p.dat := List.take_of_length_le (by rw [k2.len]; exact Nat.le_refl _)
  obtain ⟨i8, hi8, -, hs8, -⟩ := info_parts info_u8
  obtain ⟨b, off, rfl⟩ := k2.some_ (by omega)
  have hcutO : ∀ W, (Instr.slice 24 (.slice (some ⟨b, off, none⟩) n2 c2) (some (.int .i64 20)) (some (.int .i64 (hd : Int))) none).run Try.prog W = _ := fun W => cut_lh Try.underlying24 hi8 hs8 (some ⟨b, off, none⟩) n2 c2 .i64 .i64 20 hd (by omega) (by omega) (by omega) W
  obtain ⟨A', n', c', eA, en, ec, hbO⟩ := k2.cutE (lo := 20) (hi := hd) (by omega) (by omega)
  simp only [show (20 : Int).toNat = 20 from rfl, show ((hd : Int)).toNat = hd from rfl, eA, en, ec] at hcutO
  have hn' : n' ≤ 40 := by omega
  clear eA ec
  have hcutD : ∀ W, (Instr.slice 24 (.slice (some ⟨b, off, none⟩) n2 c2) (some (.int .i64 (hd : Int))) none none).run Try.prog W = _ := fun W => cut_l Try.underlying24 hi8 hs8 (some ⟨b, off, none⟩) n2 c2 .i64 hd (by omega) (by omega) W
  obtain ⟨A'', n'', c'', eA2, en2, ec2, hbD⟩ := k2.cutE (lo := hd) (hi := n2) (by omega) (Nat.le_refl _)
  simp only [show ((hd : Int)).toNat = hd from rfl, eA2, en2, ec2] at hcutD
  rw [hlL] at hbD
  have hn'' : n'' ≤ n2 := by omega
  clear eA2 en2 ec2
  clear hlL en
  have h6' : psum p 6 p.dat = 0 := by simpa using h6
  have cs : ∀ W, Bs W (some ⟨b, off, none⟩) n2 c2 p.dat → Calls Try.prog 52 #[(.agg #[.int .u8 (p).tos, .int .u16 (p).id, .bool (p).keep, .int .u8 (p).ttl, .int .u8 (p).proto, .int .u32 (p).src, .int .u32 (p).dst, .slice A1 n1 c1, .slice (some ⟨b, off, none⟩) n2 c2]), .int .u8 6, .slice (some ⟨b, off, none⟩) n2 c2] W fun e w' => e = .returned (.int .u16 0) ∧ Below W.heap.size W w' := fun W k => by
    have := rssum_any p hp A1 n1 c1 (some ⟨b, off, none⟩) n2 c2 6 (by omega) (by omega) (some ⟨b, off, none⟩) n2 c2 p.dat W k h7
    rw [h6'] at this; exact this
  clear h6 h6'
  have co : ∀ W, Bs W A' n' c' ((p.dat.take hd).drop 20) → Calls Try.prog 54 #[.slice A' n' c'] W fun e w' => ∃ A n c, e = .returned (.tuple #[.slice A n c, .bool true]) ∧ OsO w' W.heap.size A n c os ∧ n ≤ 40 ∧ Below W.heap.size W w' := fun W k => by
    refine (roptsP_any A' n' c' _ W k hn').mono fun e w' hq => ?_
    obtain ⟨A, n, c, rfl, h, hB⟩ := hq.out
    obtain ⟨h8, h9⟩ := h os ho
    rw [ho]
    exact ⟨A, n, c, rfl, h8, by have := k.len; omega, hB⟩
  clear ho
  have c12' := fun W (h : Bs W (some ⟨b, off, none⟩) n2 c2 p.dat) => h.at_ (j := 12) (by omega)
  simp only [hx] at c12'
  clear hx
  have c13' := fun W (h : Bs W (some ⟨b, off, none⟩) n2 c2 p.dat) => h.at_ (j := 13) (by omega)
  obtain ⟨v13, hv13⟩ : ∃ v, bt p.dat 13 = v := ⟨_, rfl⟩
  simp only [hv13] at c13'
  rw [hv13]
  clear hv13
  obtain ⟨v0, hv0⟩ : ∃ q, get16 p.dat 0 = q := ⟨_, rfl⟩
  have gv0 : ∀ W, Bs W (some ⟨b, off, none⟩) n2 c2 p.dat → Calls Try.prog 55 #[.slice (some ⟨b, off, none⟩) n2 c2, .int .i64 0] W fun e w' => e = .returned (.int .u16 v0) ∧ Drawn W w' := fun W k => by have := rget16_any (some ⟨b, off, none⟩) n2 c2 p.dat 0 W k; rw [hv0] at this; exact this
  rw [hv0]
  clear hv0
  obtain ⟨v2, hv2⟩ : ∃ q, get16 p.dat 2 = q := ⟨_, rfl⟩
  have gv2 : ∀ W, Bs W (some ⟨b, off, none⟩) n2 c2 p.dat → Calls Try.prog 55 #[.slice (some ⟨b, off, none⟩) n2 c2, .int .i64 2] W fun e w' => e = .returned (.int .u16 v2) ∧ Drawn W w' := fun W k => by have := rget16_any (some ⟨b, off, none⟩) n2 c2 p.dat 2 W k; rw [hv2] at this; exact this
  rw [hv2]
  clear hv2
  obtain ⟨v4, hv4⟩ : ∃ q, get32 p.dat 4 = q := ⟨_, rfl⟩
  have gv4 : ∀ W, Bs W (some ⟨b, off, none⟩) n2 c2 p.dat → Calls Try.prog 41 #[.slice (some ⟨b, off, none⟩) n2 c2, .int .i64 4] W fun e w' => e = .returned (.int .u32 v4) ∧ Drawn W w' := fun W k => by have := rget32_any (some ⟨b, off, none⟩) n2 c2 p.dat 4 W k; rw [hv4] at this; exact this
  rw [hv4]
  clear hv4
  obtain ⟨v8, hv8⟩ : ∃ q, get32 p.dat 8 = q := ⟨_, rfl⟩
  have gv8 : ∀ W, Bs W (some ⟨b, off, none⟩) n2 c2 p.dat → Calls Try.prog 41 #[.slice (some ⟨b, off, none⟩) n2 c2, .int .i64 8] W fun e w' => e = .returned (.int .u32 v8) ∧ Drawn W w' := fun W k => by have := rget32_any (some ⟨b, off, none⟩) n2 c2 p.dat 8 W k; rw [hv8] at this; exact this
  rw [hv8]
  clear hv8
  obtain ⟨v14, hv14⟩ : ∃ q, get16 p.dat 14 = q := ⟨_, rfl⟩
  have gv14 : ∀ W, Bs W (some ⟨b, off, none⟩) n2 c2 p.dat → Calls Try.prog 55 #[.slice (some ⟨b, off, none⟩) n2 c2, .int .i64 14] W fun e w' => e = .returned (.int .u16 v14) ∧ Drawn W w' := fun W k => by have := rget16_any (some ⟨b, off, none⟩) n2 c2 p.dat 14 W k; rw [hv14] at this; exact this
  rw [hv14]
  clear hv14
  obtain ⟨v18, hv18⟩ : ∃ q, get16 p.dat 18 = q := ⟨_, rfl⟩
  have gv18 : ∀ W, Bs W (some ⟨b, off, none⟩) n2 c2 p.dat → Calls Try.prog 55 #[.slice (some ⟨b, off, none⟩) n2 c2, .int .i64 18] W fun e w' => e = .returned (.int .u16 v18) ∧ Drawn W w' := fun W k => by have := rget16_any (some ⟨b, off, none⟩) n2 c2 p.dat 18 W k; rw [hv18] at this; exact this
  rw [hv18]
  clear hv18
  obtain ⟨k, hk⟩ : ∃ k : Nat, w.heap.size = k := ⟨_, rfl⟩
  obtain ⟨w1, hw1⟩ : ∃ W, ((w.alloc (.cells #[.int .u8 (p).tos, .int .u16 (p).id, .bool (p).keep, .int .u8 (p).ttl, .int .u8 (p).proto, .int .u32 (p).src, .int .u32 (p).dst, .slice A1 n1 c1, .slice (some ⟨b, off, none⟩) n2 c2] 26)).alloc (.cells #[.int .u16 0, .int .u16 0, .int .u32 0, .int .u32 0, .int .u8 0, .int .u16 0, .int .u16 0, .slice none 0 0, .slice none 0 0] 55)) = W := ⟨_, rfl⟩
  have P1 : Blk w1 k #[.int .u8 (p).tos, .int .u16 (p).id, .bool (p).keep, .int .u8 (p).ttl, .int .u8 (p).proto, .int .u32 (p).src, .int .u32 (p).dst, .slice A1 n1 c1, .slice (some ⟨b, off, none⟩) n2 c2] 26 := by rw [← hw1]; exact ((blk_new _ _ _ k (by simp [hk])).alloc _)
  have Z1 : Blk w1 (k + 1) #[.int .u16 0, .int .u16 0, .int .u32 0, .int .u32 0, .int .u8 0, .int .u16 0, .int .u16 0, .slice none 0 0, .slice none 0 0] 55 := by rw [← hw1]; exact (blk_new _ _ _ (k + 1) (by simp [hk]))
  have R1 : Below w.heap.size w w1 := by rw [← hw1]; (repeat (first | with_reducible exact Below.refl _ _ | with_reducible refine below_drew ?_ | with_reducible refine below_drewN ?_ _ | with_reducible refine below_alloc ?_ (Nat.le_refl _) _ | with_reducible refine Below.setCell ?_ (by first | exact Nat.le_refl _ | (simp only []; omega)) _ | with_reducible assumption))
  have Pc1 := P1.cell
  have Zc1 := Z1.cell
  have Pl1 := P1.lt
  have Zl1 := Z1.lt
  have x1 := (k2).below R1
  have y1 := (hbO).below R1
  have z1 := (hbD).below R1
  have c12 := c12' _ x1
  go_enter Try.func23, Try.ntmps23
  go_wp2_with (first
    | (go_at_call 52; ((with_reducible refine (cs w1 x1).mono ?_); rintro e w2 ⟨rfl, hB2⟩); have P2 := P1.below hB2; have Pc2 := P2.cell; clear Pc1; have Z2 := Z1.below hB2; have Zc2 := Z2.cell; clear Zc1; have x2 := x1.below hB2; have y2 := y1.below hB2; have z2 := z1.below hB2; have R2 := below_then R1 hB2)
    | (go_at_call 54; ((with_reducible refine (co w2 y2).mono ?_); rintro e w3 ⟨A6, n6, c6, rfl, hO6, hn6, hB3⟩); have P3 := P2.below hB3; have Pc3 := P3.cell; clear Pc2; have Z3 := Z2.below hB3; have Zc3 := Z3.cell; clear Zc2; have x3 := x2.below hB3; have y3 := y2.below hB3; have z3 := z2.below hB3; have R3 := below_then R2 hB3))
  have s2 := R2.size
  have h13 : (13 : Int) < (n2 : Int) := by omega
  refine region_txt 18 (by kernel_rfl) (by kernel_rfl) ?_; (iterate 18 (first | (apply ObsK.skip (by rfl)) | (apply ObsK.v (by rfl); (intro wo hT; (repeat (first | (intro v hv; (fail)) | (intro _ _ k; try have hcv := cv k))); (have pc := (P3.below hT).cell; have xo := x3.below hT; have c13 := c13' _ xo; have hsz : w3.heap.size ≤ wo.heap.size := hT.size); refine Goes.mk ?_; go_simp; first | exact goes_v | exact goes_b (by assumption) | exact goes_new hsz | (refine goes_enter ?_; first | (go_at_call 55; ((with_reducible refine (gv0 wo xo).mono ?_); rintro e w5 ⟨rfl, hD5⟩); exact ret_v hD5.bel) | (go_at_call 55; ((with_reducible refine (gv2 wo xo).mono ?_); rintro e w5 ⟨rfl, hD5⟩); exact ret_v hD5.bel) | (go_at_call 41; ((with_reducible refine (gv4 wo xo).mono ?_); rintro e w5 ⟨rfl, hD5⟩); exact ret_v hD5.bel) | (go_at_call 41; ((with_reducible refine (gv8 wo xo).mono ?_); rintro e w5 ⟨rfl, hD5⟩); exact ret_v hD5.bel) | (go_at_call 55; ((with_reducible refine (gv14 wo xo).mono ?_); rintro e w5 ⟨rfl, hD5⟩); exact ret_v hD5.bel) | (go_at_call 55; ((with_reducible refine (gv18 wo xo).mono ?_); rintro e w5 ⟨rfl, hD5⟩); exact ret_v hD5.bel)))) | (apply ObsK.b (by rfl); (intro wo hT; (repeat (first | (intro v hv; (fail)) | (intro _ _ k; try have hcv := cv k))); (have pc := (P3.below hT).cell; have xo := x3.below hT; have c13 := c13' _ xo; have hsz : w3.heap.size ≤ wo.heap.size := hT.size); refine Goes.mk ?_; go_simp; first | exact goes_v | exact goes_b (by assumption) | exact goes_new hsz | (refine goes_enter ?_; first | (go_at_call 55; ((with_reducible refine (gv0 wo xo).mono ?_); rintro e w5 ⟨rfl, hD5⟩); exact ret_v hD5.bel) | (go_at_call 55; ((with_reducible refine (gv2 wo xo).mono ?_); rintro e w5 ⟨rfl, hD5⟩); exact ret_v hD5.bel) | (go_at_call 41; ((with_reducible refine (gv4 wo xo).mono ?_); rintro e w5 ⟨rfl, hD5⟩); exact ret_v hD5.bel) | (go_at_call 41; ((with_reducible refine (gv8 wo xo).mono ?_); rintro e w5 ⟨rfl, hD5⟩); exact ret_v hD5.bel) | (go_at_call 55; ((with_reducible refine (gv14 wo xo).mono ?_); rintro e w5 ⟨rfl, hD5⟩); exact ret_v hD5.bel) | (go_at_call 55; ((with_reducible refine (gv18 wo xo).mono ?_); rintro e w5 ⟨rfl, hD5⟩); exact ret_v hD5.bel)))) | (apply ObsK.p (q := isNew w3.heap.size #[.int .u16 0, .int .u16 0, .int .u32 0, .int .u32 0, .int .u8 0, .int .u16 0, .int .u16 0, .slice none 0 0, .slice none 0 0] 55) (by rfl) st_isNew; (intro wo hT; (repeat (first | (intro v hv; (fail)) | (intro _ _ k; try have hcv := cv k))); (have pc := (P3.below hT).cell; have xo := x3.below hT; have c13 := c13' _ xo; have hsz : w3.heap.size ≤ wo.heap.size := hT.size); refine Goes.mk ?_; go_simp; first | exact goes_v | exact goes_b (by assumption) | exact goes_new hsz | (refine goes_enter ?_; first | (go_at_call 55; ((with_reducible refine (gv0 wo xo).mono ?_); rintro e w5 ⟨rfl, hD5⟩); exact ret_v hD5.bel) | (go_at_call 55; ((with_reducible refine (gv2 wo xo).mono ?_); rintro e w5 ⟨rfl, hD5⟩); exact ret_v hD5.bel) | (go_at_call 41; ((with_reducible refine (gv4 wo xo).mono ?_); rintro e w5 ⟨rfl, hD5⟩); exact ret_v hD5.bel) | (go_at_call 41; ((with_reducible refine (gv8 wo xo).mono ?_); rintro e w5 ⟨rfl, hD5⟩); exact ret_v hD5.bel) | (go_at_call 55; ((with_reducible refine (gv14 wo xo).mono ?_); rintro e w5 ⟨rfl, hD5⟩); exact ret_v hD5.bel) | (go_at_call 55; ((with_reducible refine (gv18 wo xo).mono ?_); rintro e w5 ⟨rfl, hD5⟩); exact ret_v hD5.bel)))))); refine ObsK.nil ?_; intro wz hBz; simp only [finOn, List.drop_succ_cons, List.drop_zero, List.drop_nil]
  rintro _ ⟨gS, rfl, hS, S4⟩
  go_simp
  obtain ⟨wq, hwq, Sq⟩ := store9 S4 (.int .u16 v0) (.int .u16 v2) (.int .u32 v4) (.int .u32 v8) (.int .u8 v13) (.int .u16 v14) (.int .u16 v18) (.slice A6 n6 c6) (.slice none 0 0)
  have hBq := Sq.bel hBz hS
  have cS4 := S4.cell
  have zl3 := Z3.lt
  have r3s := R3.size
  have S4 := Sq.blk
  have Sc4 := S4.cell
  have P4 := P3.below hBq
  have Pc4 := P4.cell
  clear Pc3
  have Z4 := Z3.below hBq
  have Zc4 := Z4.cell
  clear Zc3
  have x4 := x3.below hBq
  have y4 := y3.below hBq
  have z4 := z3.below hBq
  have R4 := below_then R3 hBq
  have gl := S4.lt
  go_wp2_with fail
  refine region_txt 5 (by kernel_rfl) (by kernel_rfl) ?_; (iterate 5 (first | (apply ObsK.skip (by rfl)) | (apply ObsK.v (by rfl); (intro wo hT; (repeat (first | (intro _ _ k; try have hcv := cv k))); (have gc := (S4.below hT).cell); refine Goes.mk ?_; go_simp; first | exact goes_v | exact goes_b (by assumption) | (refine goes_enter ?_; first | fail))) | (apply ObsK.b (by rfl); (intro wo hT; (repeat (first | (intro _ _ k; try have hcv := cv k))); (have gc := (S4.below hT).cell); refine Goes.mk ?_; go_simp; first | exact goes_v | exact goes_b (by assumption) | (refine goes_enter ?_; first | fail))))); refine ObsK.nil ?_; intro wz hBz; simp only [finOn, List.drop_succ_cons, List.drop_zero, List.drop_nil]
  go_simp
  have gs := hBz.size
  have hBqz := below_then hBq hBz
  have P5 := P4.below hBz
  have Pc5 := P5.cell
  clear Pc4
  have Z5 := Z4.below hBz
  have Zc5 := Z5.cell
  clear Zc4
  have S5 := S4.below hBz
  have Sc5 := S5.cell
  clear Sc4
  have x5 := x4.below hBz
  have y5 := y4.below hBz
  have z5 := z4.below hBz
  have R5 := below_then R4 hBz
  go_wp2_with (at_builtin; refine wpList_append_bs (w0 := wz) _ rfl _ _ _ rfl wz.heap.size 5 Try.underlying24 info_u8 none 0 0 [] rfl (own_nil _ _ _) A'' n'' c'' _ rfl z5 (Below.refl _ _) (by omega) (by first | exact Nat.le_refl _ | exact Below.size (Below.refl _ _) | omega | (simp <;> omega)) ?_; intro A7 n7 c7 w7 ho7 hB7 _ hz7; have u7 : n7 = n'' := (by have := ho7.len; have := z5.len; simp at *; omega); subst u7; replace ho7 : Own w7 wz.heap.size 5 A7 n7 c7 (p.dat.drop hd) := ho7; have G7 := S5.below hB7; have gc7 := G7.cell; (obtain ⟨w8, hw8, S8⟩ := store1 G7 8 (.slice A7 n7 c7)); simp only [List.setIfInBounds_toArray, List.set_cons_zero, List.set_cons_succ] at S8; have gc8 := S8.blk.cell; have Z8 := S8.other (by omega) (Z5.below hB7); have zc8 := Z8.cell; have T8 := S8.bel (below_then R5 hB7) (by omega); have O8 := S8.own ho7 (fun a e => by have := ho7.ge a e; omega); have B38 := S8.bel (below_then hBqz hB7) hS)
  obtain ⟨wf, hwf, Sf⟩ := store9 Z8 (.int .u16 v0) (.int .u16 v2) (.int .u32 v4) (.int .u32 v8) (.int .u8 v13) (.int .u16 v14) (.int .u16 v18) (.slice A6 n6 c6) (.slice A7 n7 c7)
  rw [hwf]
  have pf := Sf.blk.cell
  have Q8 : SO w8 w2.heap.size (k + 1) 55 A6 n6 c6 os := ⟨hO6.below B38, _, Z8⟩
  have hT1 : 55 ≠ 5 := by decide
  have hT2 : 55 ≠ 99 := by decide
  have Qf : SO wf w2.heap.size (k + 1) 55 A6 n6 c6 os := by
    rw [← hwf]; exact ((((((((Q8.set hT1 hT2 _ _).set hT1 hT2 _ _).set hT1 hT2 _ _).set hT1 hT2 _ _).set hT1 hT2 _ _).set hT1 hT2 _ _).set hT1 hT2 _ _).set hT1 hT2 _ _).set hT1 hT2 _ _
  have rz := R5.size
  have Of := Sf.own O8 (fun a e => by have := O8.ge a e; omega)
  exact bodyPost_ret (v := .tuple #[.agg #[.int .u16 v0, .int .u16 v2, .int .u32 v4, .int .u32 v8, .int .u8 v13, .int .u16 v14, .int .u16 v18, .slice A6 n6 c6, .slice A7 n7 c7], .int .i64 0]) (by simp [results, Try.results23, go_sem, pf]) rfl ⟨⟨A6, n6, c6, A7, n7, c7, rfl, Qf.o.mono s2, hn6, Of.mono rz, Sf.bel T8 (by omega)⟩⟩

theorem rtcp_any (p : Pkt) (hp : p.Ok) (A1 : Option Addr) (n1 c1 : Nat) (A2 : Option Addr) (n2 c2 : Nat) (w : World) (k2 : Bs w A2 n2 c2 p.dat) (h7 : n2 ≤ 17592186044400) :
    Calls Try.prog 23 #[(.agg #[.int .u8 (p).tos, .int .u16 (p).id, .bool (p).keep, .int .u8 (p).ttl, .int .u8 (p).proto, .int .u32 (p).src, .int .u32 (p).dst, .slice A1 n1 c1, .slice A2 n2 c2])] w (TcPost w (tcS p) (tcE p)) := by
  have b0 := bt_lo p.dat 12
  have hq : bt p.dat 12 / 16 * 4 = ((hdS p.dat : Nat) : Int) := by unfold hdS; omega
  rcases tc_ways p n2 k2.len _ rfl _ rfl with ⟨h0, h⟩ | ⟨h1, h2, h3, h4, h5, h6, hN, hY⟩
  · have hs : tcS p = zS := by unfold tcS; rw [if_neg h0]
    rw [hs]
    refine rtcp_no p hp A1 n1 c1 A2 n2 c2 w k2 _ _ _ _ rfl rfl hq ?_
    rcases h with h | h | h | h | h | h
    · exact .inl h
    · exact .inr (.inl h)
    · exact .inr (.inr (.inl h))
    · exact .inr (.inr (.inr (.inl h)))
    · exact .inr (.inr (.inr (.inr (.inl h))))
    · exact .inr (.inr (.inr (.inr (.inr ⟨h.1, h.2.1, h.2.2.1, h.2.2.2.1, h.2.2.2.2.1, h.2.2.2.2.2.1, h.2.2.2.2.2.2, h7⟩))))
  · rcases ho : optsP ((p.dat.take (hdS p.dat)).drop 20) with _ | os
    · have hE := hN ho
      have hs : tcS p = zS := by unfold tcS; rw [if_neg (by rw [hE]; decide)]
      rw [hs, hE]
      exact rtcp_bad p hp A1 n1 c1 A2 n2 c2 w k2 _ _ _ rfl rfl hq h1 h2 h3 h4 h5 h6 h7 ho
    · have hE := hY os ho
      have hs : tcS p = ⟨get16 p.dat 0, get16 p.dat 2, get32 p.dat 4, get32 p.dat 8, bt p.dat 13, get16 p.dat 14, get16 p.dat 18, os, p.dat.drop (hdS p.dat)⟩ := by unfold tcS rdS; rw [if_pos hE, ho]; rfl
      rw [hs, hE]
      exact rtcp_go p hp A1 n1 c1 A2 n2 c2 w k2 _ _ _ rfl rfl hq h1 h2 h3 h4 h5 h6 h7 os ho
end Go.Proofs.Ytjhpmeagopdaiaa

namespace Go.Proofs.Ytjhpmeagopdaiaa
open Go.RowKit
set_option linter.unusedVariables false
set_option linter.unusedSimpArgs false
set_option linter.unusedSimpArgs false
set_option maxHeartbeats 4000000
set_option maxRecDepth 100000

theorem rbegin_any (A : Option Addr) (n c : Nat) (l : List UInt8) (w : World) (hb : Bs w A n c l) :
    Calls Try.prog 56 #[.slice A n c] w fun e w' => e = .returned (.bool (decide (4 ≤ (n : Int)) && begB l)) ∧ w = w' := by
  by_cases h : 4 ≤ (n : Int)
  · have b2 := hb.max
    obtain ⟨b, off, rfl⟩ := hb.some_ (by omega)
    have c0 := hb.at_ (j := 0) (by omega)
    rw [Nat.add_zero] at c0
    have c1 := hb.at_ (j := 1) (by omega)
    have c2' := hb.at_ (j := 2) (by omega)
    have c3 := hb.at_ (j := 3) (by omega)
    have q0 : 0 < n := by omega
    have q0' : (0 : Int) < n := by omega
    have q1 : (1 : Int) < n := by omega
    have q2 : (2 : Int) < n := by omega
    have q3 : (3 : Int) < n := by omega
    go_enter Try.func56, Try.ntmps56
    go_wp2_with fail
    all_goals go_ret
    all_goals refine ⟨?_, rfl⟩
    all_goals simp_all [begB]
  · have b2 := hb.max
    go_enter Try.func56, Try.ntmps56
    go_wp2_with fail
    all_goals go_ret
    all_goals refine ⟨?_, rfl⟩
    all_goals rw [decide_eq_false (show ¬ (4 : Int) ≤ n by omega)]
    all_goals rfl
theorem rgre_no (p : Pkt) (A1 : Option Addr) (n1 c1 : Nat) (A2 : Option Addr) (n2 c2 : Nat) (w : World) (k2 : Bs w A2 n2 c2 p.dat) (E : Int)
    (h : (E = 12 ∧ (p.proto != 47) = true) ∨ (E = 3 ∧ (p.proto != 47) = false ∧ (n2 : Int) < 8) ∨ (E = 4 ∧ (p.proto != 47) = false ∧ 8 ≤ (n2 : Int) ∧ begB p.dat = false)) :
    Calls Try.prog 26 #[(.agg #[.int .u8 (p).tos, .int .u16 (p).id, .bool (p).keep, .int .u8 (p).ttl, .int .u8 (p).proto, .int .u32 (p).src, .int .u32 (p).dst, .slice A1 n1 c1, .slice A2 n2 c2])] w (FrPost w zF E) := by
  have b2 := k2.max
  obtain ⟨k, hk⟩ : ∃ k : Nat, w.heap.size = k := ⟨_, rfl⟩
  obtain ⟨w1, hw1⟩ : ∃ W, ((w.alloc (.cells #[.int .u8 (p).tos, .int .u16 (p).id, .bool (p).keep, .int .u8 (p).ttl, .int .u8 (p).proto, .int .u32 (p).src, .int .u32 (p).dst, .slice A1 n1 c1, .slice A2 n2 c2] 26)).alloc (.cells #[.int .u16 0, .bool false, .bool false, .int .u32 0, .int .u32 0, .slice none 0 0] 63)) = W := ⟨_, rfl⟩
  have P1 : Blk w1 k #[.int .u8 (p).tos, .int .u16 (p).id, .bool (p).keep, .int .u8 (p).ttl, .int .u8 (p).proto, .int .u32 (p).src, .int .u32 (p).dst, .slice A1 n1 c1, .slice A2 n2 c2] 26 := by rw [← hw1]; exact ((blk_new _ _ _ k (by simp [hk])).alloc _)
  have Z1 : Blk w1 (k + 1) #[.int .u16 0, .bool false, .bool false, .int .u32 0, .int .u32 0, .slice none 0 0] 63 := by rw [← hw1]; exact (blk_new _ _ _ (k + 1) (by simp [hk]))
  have R1 : Below w.heap.size w w1 := by rw [← hw1]; (repeat (first | with_reducible exact Below.refl _ _ | with_reducible refine below_drew ?_ | with_reducible refine below_drewN ?_ _ | with_reducible refine below_alloc ?_ (Nat.le_refl _) _ | with_reducible refine Below.setCell ?_ (by first | exact Nat.le_refl _ | (simp only []; omega)) _ | with_reducible assumption))
  have Pc1 := P1.cell
  have Zc1 := Z1.cell
  have Pl1 := P1.lt
  have Zl1 := Z1.lt
  have x1 := (k2).below R1
  obtain ⟨wf, hwf, Sf⟩ := store6 Z1 (.int .u16 0) (.bool false) (.bool false) (.int .u32 0) (.int .u32 0) (.slice none 0 0)
  have pf := Sf.blk.cell
  have Tf := Sf.bel R1 (by omega)
  rcases h with ⟨rfl, h1⟩ | ⟨rfl, h1, h2⟩ | ⟨rfl, h1, h2, h3⟩
  · go_enter Try.func26, Try.ntmps26
    go_wp2_with fail
    exact bodyPost_ret (by simp [results, Try.results26, go_sem, pf]) rfl (frPost_no Tf)
  · go_enter Try.func26, Try.ntmps26
    go_wp2_with fail
    exact bodyPost_ret (by simp [results, Try.results26, go_sem, pf]) rfl (frPost_no Tf)
  · have hb := rbegin_any A2 n2 c2 p.dat w1 x1
    rw [h3, Bool.and_false] at hb
    clear h3
    go_enter Try.func26, Try.ntmps26
    go_wp2_with (go_at_call 56; ((with_reducible refine (hb).mono ?_); rintro e w2 ⟨rfl, rfl⟩))
    exact bodyPost_ret (by simp [results, Try.results26, go_sem, pf]) rfl (frPost_no Tf)
theorem rgre_yes (p : Pkt) (A1 : Option Addr) (n1 c1 : Nat) (A2 : Option Addr) (n2 c2 : Nat) (w : World) (k2 : Bs w A2 n2 c2 p.dat) (h1 : (p.proto != 47) = false) (h2 : 8 ≤ (n2 : Int)) (HH : begB p.dat = true) :
    Calls Try.prog 26 #[(.agg #[.int .u8 (p).tos, .int .u16 (p).id, .bool (p).keep, .int .u8 (p).ttl, .int .u8 (p).proto, .int .u32 (p).src, .int .u32 (p).dst, .slice A1 n1 c1, .slice A2 n2 c2])] w (FrPost w (geF p) (geE p)) := by
  have b2 := k2.max
  have hcap := k2.cap
  have hlL : p.dat.take n2 = p.dat := List.take_of_length_le (by rw [k2.len]; exact Nat.le_refl _)
  obtain ⟨i8, hi8, -, hs8, -⟩ := info_parts info_u8
  obtain ⟨b, off, rfl⟩ := k2.some_ (by omega)
  obtain ⟨l, hl⟩ : ∃ l, p.dat = l := ⟨_, rfl⟩
  rw [hl] at k2 hlL HH
  have HLL := Lib.hid hl
  clear hl
  obtain ⟨s, hs⟩ : ∃ s, (bt l 0 == 48) = s := ⟨_, rfl⟩
  obtain ⟨a, ha⟩ : ∃ a, (bt l 1 == 129) = a := ⟨_, rfl⟩
  have hsB : sB l = s := hs
  have haB : aB l = a := ha
  have q0 : 0 < n2 := by omega
  have q0' : (0 : Int) < n2 := by omega
  have q1 : (1 : Int) < n2 := by omega
  have g40 := get16_lo l 4
  have g41 := get16_hi l 4
  obtain ⟨nn, hnn⟩ : ∃ nn, get16 l 4 = nn := ⟨_, rfl⟩
  rw [hnn] at g40 g41
  obtain ⟨H, hH⟩ : ∃ H : Nat, hdG l = H := ⟨_, rfl⟩
  have hHd : H = 8 + (if s then 4 else 0) + (if a then 4 else 0) := by rw [← hH]; unfold hdG; rw [hsB, haB]
  have HRd : Hid (rdF l = ⟨get16 l 6, s, a, (if s = true then get32 l 8 else 0), (if a = true then get32 l (if s = true then 12 else 8) else 0), l.drop H⟩) := by
    unfold Hid rdF
    rw [hH, hsB, haB]
  have hb := rbegin_any (some ⟨b, off, none⟩) n2 c2 l
  rw [HH, decide_eq_true (show (4 : Int) ≤ n2 by omega)] at hb
  have HE3 : Hid ((n2 : Int) < (H : Int) + nn → geF p = zF ∧ geE p = 3) := fun h => by
    have e : geE p = 3 := by
      unfold geE
      rw [if_neg (by simpa using h1), HLL.out, k2.len, if_neg (by omega), if_neg (by rw [HH]; decide), hH, hnn, if_pos h]
    exact ⟨by unfold geF; rw [e, if_neg (by decide)], e⟩
  have HE4 : Hid ((H : Int) + nn < (n2 : Int) → geF p = zF ∧ geE p = 4) := fun h => by
    have e : geE p = 4 := by
      unfold geE
      rw [if_neg (by simpa using h1), HLL.out, k2.len, if_neg (by omega), if_neg (by rw [HH]; decide), hH, hnn, if_neg (by omega), if_pos h]
    exact ⟨by unfold geF; rw [e, if_neg (by decide)], e⟩
  have HE0 : Hid ((H : Int) + nn = (n2 : Int) → geF p = rdF l ∧ geE p = 0) := fun h => by
    have e : geE p = 0 := by
      unfold geE
      rw [if_neg (by simpa using h1), HLL.out, k2.len, if_neg (by omega), if_neg (by rw [HH]; decide), hH, hnn, if_neg (by omega), if_neg (by omega)]
    exact ⟨by unfold geF; rw [e, if_pos rfl, HLL.out], e⟩
  have HNN := Lib.hid hnn
  clear hsB haB HH hH hnn
  obtain ⟨k, hk⟩ : ∃ k : Nat, w.heap.size = k := ⟨_, rfl⟩
  obtain ⟨w1, hw1⟩ : ∃ W, ((w.alloc (.cells #[.int .u8 (p).tos, .int .u16 (p).id, .bool (p).keep, .int .u8 (p).ttl, .int .u8 (p).proto, .int .u32 (p).src, .int .u32 (p).dst, .slice A1 n1 c1, .slice (some ⟨b, off, none⟩) n2 c2] 26)).alloc (.cells #[.int .u16 0, .bool false, .bool false, .int .u32 0, .int .u32 0, .slice none 0 0] 63)) = W := ⟨_, rfl⟩
  have P1 : Blk w1 k #[.int .u8 (p).tos, .int .u16 (p).id, .bool (p).keep, .int .u8 (p).ttl, .int .u8 (p).proto, .int .u32 (p).src, .int .u32 (p).dst, .slice A1 n1 c1, .slice (some ⟨b, off, none⟩) n2 c2] 26 := by rw [← hw1]; exact ((blk_new _ _ _ k (by simp [hk])).alloc _)
  have Z1 : Blk w1 (k + 1) #[.int .u16 0, .bool false, .bool false, .int .u32 0, .int .u32 0, .slice none 0 0] 63 := by rw [← hw1]; exact (blk_new _ _ _ (k + 1) (by simp [hk]))
  have R1 : Below w.heap.size w w1 := by rw [← hw1]; (repeat (first | with_reducible exact Below.refl _ _ | with_reducible refine below_drew ?_ | with_reducible refine below_drewN ?_ _ | with_reducible refine below_alloc ?_ (Nat.le_refl _) _ | with_reducible refine Below.setCell ?_ (by first | exact Nat.le_refl _ | (simp only []; omega)) _ | with_reducible assumption))
  have Pc1 := P1.cell
  have Zc1 := Z1.cell
  have Pl1 := P1.lt
  have Zl1 := Z1.lt
  have x1 := (k2).below R1
  have hb1 := hb w1 x1
  clear hb
  go_enter Try.func26, Try.ntmps26
  go_wp2_with (go_at_call 56; ((with_reducible refine (hb1).mono ?_); rintro e w2 ⟨rfl, rfl⟩))
  clear hb1
  refine region_txt 12 (by kernel_rfl) (by kernel_rfl) ?_; (iterate 12 (first | (apply ObsK.skip (by rfl)) | (apply ObsK.v (by rfl); (intro wo hT; (repeat (first | (intro v hv; (fail)) | (intro _ _ k; try have hcv := cv k))); (have bo := x1.below hT; have c0 := bo.at_ (j := 0) (by omega); rw [Nat.add_zero] at c0; have c1 := bo.at_ (j := 1) (by omega); have hsz : w1.heap.size ≤ wo.heap.size := hT.size); refine Goes.mk ?_; go_simp; first | exact goes_v | exact goes_b (by assumption) | exact goes_new hsz | (refine goes_enter ?_; first | (go_at_call 55; ((with_reducible refine (rget16_any (some ⟨b, off, none⟩) n2 c2 l 6 wo bo).mono ?_); rintro e w5 ⟨rfl, hD5⟩); exact ret_v hD5.bel)))) | (apply ObsK.b (by rfl); (intro wo hT; (repeat (first | (intro v hv; (fail)) | (intro _ _ k; try have hcv := cv k))); (have bo := x1.below hT; have c0 := bo.at_ (j := 0) (by omega); rw [Nat.add_zero] at c0; have c1 := bo.at_ (j := 1) (by omega); have hsz : w1.heap.size ≤ wo.heap.size := hT.size); refine Goes.mk ?_; go_simp; first | exact goes_v | exact goes_b (by assumption) | exact goes_new hsz | (refine goes_enter ?_; first | (go_at_call 55; ((with_reducible refine (rget16_any (some ⟨b, off, none⟩) n2 c2 l 6 wo bo).mono ?_); rintro e w5 ⟨rfl, hD5⟩); exact ret_v hD5.bel)))) | (apply ObsK.p (q := isNew w1.heap.size _ _) (by rfl) st_isNew; (intro wo hT; (repeat (first | (intro v hv; (fail)) | (intro _ _ k; try have hcv := cv k))); (have bo := x1.below hT; have c0 := bo.at_ (j := 0) (by omega); rw [Nat.add_zero] at c0; have c1 := bo.at_ (j := 1) (by omega); have hsz : w1.heap.size ≤ wo.heap.size := hT.size); refine Goes.mk ?_; go_simp; first | exact goes_v | exact goes_b (by assumption) | exact goes_new hsz | (refine goes_enter ?_; first | (go_at_call 55; ((with_reducible refine (rget16_any (some ⟨b, off, none⟩) n2 c2 l 6 wo bo).mono ?_); rintro e w5 ⟨rfl, hD5⟩); exact ret_v hD5.bel)))))); refine ObsK.nil ?_; intro wz hBz; simp only [finOn, List.drop_succ_cons, List.drop_zero, List.drop_nil]
  rintro vp ⟨gf, rfl, gfB, G⟩
  go_simp
  obtain ⟨w4, hw4, S4⟩ := store6 G (.int .u16 (get16 l 6)) (.bool s) (.bool a) (.int .u32 0) (.int .u32 0) (.slice none 0 0)
  have gc0 := G.cell
  have kk : w.heap.size ≤ w1.heap.size := R1.size
  have F4 := S4.blk
  have fc4 := F4.cell
  have Z4 := S4.other (by omega) (Z1.below hBz)
  have T4 := S4.bel (below_then R1 hBz) (by omega)
  have x4 := k2.below T4
  have hgf : w.heap.size ≤ gf := by omega
  have hgz : k + 1 ≠ gf := by omega
  clear hs ha
  cases s <;> cases a
  · simp only [if_true, if_false, Bool.false_eq_true, Nat.add_zero, Nat.reduceAdd] at hHd
    subst hHd
    have HRD : Hid (rdF l = ⟨get16 l 6, false, false, 0, 0, l.drop 8⟩) := HRd.out
    clear HRd
    have HE3' : Hid ((n2 : Int) < 8 + nn → geF p = zF ∧ geE p = 3) := HE3.out
    have HE4' : Hid (8 + nn < (n2 : Int) → geF p = zF ∧ geE p = 4) := HE4.out
    have HE0' : Hid (8 + nn = (n2 : Int) → geF p = rdF l ∧ geE p = 0) := HE0.out
    clear HE3 HE4 HE0
    by_cases t1 : (n2 : Int) < 8 + nn
    · go_wp2_with (go_at_call 55; ((with_reducible refine (rget16_any (some ⟨b, off, none⟩) n2 c2 l 4 w4 x4).mono ?_); rintro e w6 ⟨he6, hD6⟩); (rw [HNN.out] at he6); subst he6; have F6 := F4.below hD6.bel; have Z6 := Z4.below hD6.bel; have T6 := below_then T4 hD6.bel; have fc6 := F6.cell; have zc6 := Z6.cell; have fl6 := F6.lt; have zl6 := Z6.lt; have x6 := k2.below T6)
      obtain ⟨eF, eE⟩ := HE3'.out t1
      obtain ⟨wf, hwf, Sf⟩ := store6 Z6 (.int .u16 0) (.bool false) (.bool false) (.int .u32 0) (.int .u32 0) (.slice none 0 0)
      rw [hwf, eF, eE]
      have pf := Sf.blk.cell
      exact bodyPost_ret (by simp [results, Try.results26, go_sem, pf]) rfl (frPost_no (Sf.bel T6 (by omega)))
    · by_cases t2 : 8 + nn < (n2 : Int)
      · go_wp2_with (go_at_call 55; ((with_reducible refine (rget16_any (some ⟨b, off, none⟩) n2 c2 l 4 w4 x4).mono ?_); rintro e w6 ⟨he6, hD6⟩); (rw [HNN.out] at he6); subst he6; have F6 := F4.below hD6.bel; have Z6 := Z4.below hD6.bel; have T6 := below_then T4 hD6.bel; have fc6 := F6.cell; have zc6 := Z6.cell; have fl6 := F6.lt; have zl6 := Z6.lt; have x6 := k2.below T6)
        obtain ⟨eF, eE⟩ := HE4'.out t2
        obtain ⟨wf, hwf, Sf⟩ := store6 Z6 (.int .u16 0) (.bool false) (.bool false) (.int .u32 0) (.int .u32 0) (.slice none 0 0)
        rw [hwf, eF, eE]
        have pf := Sf.blk.cell
        exact bodyPost_ret (by simp [results, Try.results26, go_sem, pf]) rfl (frPost_no (Sf.bel T6 (by omega)))
      · have hcut : ∀ W, (Instr.slice 24 (.slice (some ⟨b, off, none⟩) n2 c2) (some (.int .i64 8)) none none).run Try.prog W = _ := fun W => cut_l Try.underlying24 hi8 hs8 (some ⟨b, off, none⟩) n2 c2 .i64 8 (by omega) (by omega) W
        obtain ⟨A', n', c', eA, en, ec, hbD⟩ := k2.cutE (lo := 8) (hi := n2) (by omega) (Nat.le_refl _)
        simp only [show (8 : Int).toNat = 8 from rfl, eA, en, ec] at hcut
        rw [hlL] at hbD
        have hn' : n' ≤ n2 := by omega
        clear eA en ec
        go_wp2_with (first
          | (go_at_call 55; ((with_reducible refine (rget16_any (some ⟨b, off, none⟩) n2 c2 l 4 w4 x4).mono ?_); rintro e w6 ⟨he6, hD6⟩); (rw [HNN.out] at he6); subst he6; have F6 := F4.below hD6.bel; have Z6 := Z4.below hD6.bel; have T6 := below_then T4 hD6.bel; have fc6 := F6.cell; have zc6 := Z6.cell; have fl6 := F6.lt; have zl6 := Z6.lt; have x6 := k2.below T6))
        refine region_txt 5 (by kernel_rfl) (by kernel_rfl) ?_; (iterate 5 (first | (apply ObsK.skip (by rfl)) | (apply ObsK.v (by rfl); (intro wo hT; (repeat (first | (intro _ _ k; try have hcv := cv k))); (have gc := (F6.below hT).cell); refine Goes.mk ?_; go_simp; first | exact goes_v | exact goes_b (by assumption) | (refine goes_enter ?_; first | fail))) | (apply ObsK.b (by rfl); (intro wo hT; (repeat (first | (intro _ _ k; try have hcv := cv k))); (have gc := (F6.below hT).cell); refine Goes.mk ?_; go_simp; first | exact goes_v | exact goes_b (by assumption) | (refine goes_enter ?_; first | fail))))); refine ObsK.nil ?_; intro wz hBz; simp only [finOn, List.drop_succ_cons, List.drop_zero, List.drop_nil]
        go_simp
        have F20 := F6.below hBz
        have Z20 := Z6.below hBz
        have T20 := below_then T6 hBz
        have D20 := hbD.below T20
        have gl := F20.lt
        have gs := hBz.size
        have z20l := Z20.lt
        go_wp2_with (first
          | (at_builtin; refine wpList_append_bs (w0 := wz) _ rfl _ _ _ rfl wz.heap.size 5 Try.underlying24 info_u8 none 0 0 [] rfl (own_nil _ _ _) A' n' c' _ rfl D20 (Below.refl _ _) (by omega) (by first | exact Nat.le_refl _ | exact Below.size (Below.refl _ _) | omega | (simp <;> omega)) ?_; intro A7 n7 c7 w27 ho7 hB7 _ hz7; have u7 : n7 = n' := (by have := ho7.len; have := D20.len; simp at *; omega); subst u7; replace ho7 : Own w27 wz.heap.size 5 A7 n7 c7 (l.drop 8) := ho7; have F27 := F20.below hB7; have gc7 := F27.cell; (obtain ⟨w28, hw28, S28⟩ := store1 F27 5 (.slice A7 n7 c7)); simp only [List.setIfInBounds_toArray, List.set_cons_zero, List.set_cons_succ] at S28; have gc8 := S28.blk.cell; have Z28 := S28.other hgz (Z20.below hB7); have zc8 := Z28.cell; have T28 := S28.bel (below_then T20 hB7) hgf; have O28 := S28.own ho7 (fun a e => by have := ho7.ge a e; omega)))
        obtain ⟨eF, eE⟩ := HE0'.out (by omega)
        rw [HRD.out] at eF
        obtain ⟨wf, hwf, Sf⟩ := store6 Z28 (.int .u16 (get16 l 6)) (.bool false) (.bool false) (.int .u32 (0)) (.int .u32 (0)) (.slice A7 n7 c7)
        rw [hwf, eF, eE]
        have pf := Sf.blk.cell
        have Of := Sf.own O28 (fun a e => by have := ho7.ge a e; omega)
        have s5 := T20.size
        exact bodyPost_ret (v := .tuple #[.agg #[.int .u16 (get16 l 6), .bool false, .bool false, .int .u32 (0), .int .u32 (0), .slice A7 n7 c7], .int .i64 0]) (by simp [results, Try.results26, go_sem, pf]) rfl ⟨A7, n7, c7, rfl, Of.mono s5, Sf.bel T28 (by omega)⟩
  · simp only [if_true, if_false, Bool.false_eq_true, Nat.add_zero, Nat.reduceAdd] at hHd
    subst hHd
    have HRD : Hid (rdF l = ⟨get16 l 6, false, true, 0, get32 l 8, l.drop 12⟩) := HRd.out
    clear HRd
    have HE3' : Hid ((n2 : Int) < 12 + nn → geF p = zF ∧ geE p = 3) := HE3.out
    have HE4' : Hid (12 + nn < (n2 : Int) → geF p = zF ∧ geE p = 4) := HE4.out
    have HE0' : Hid (12 + nn = (n2 : Int) → geF p = rdF l ∧ geE p = 0) := HE0.out
    clear HE3 HE4 HE0
    by_cases t1 : (n2 : Int) < 12 + nn
    · go_wp2_with (go_at_call 55; ((with_reducible refine (rget16_any (some ⟨b, off, none⟩) n2 c2 l 4 w4 x4).mono ?_); rintro e w6 ⟨he6, hD6⟩); (rw [HNN.out] at he6); subst he6; have F6 := F4.below hD6.bel; have Z6 := Z4.below hD6.bel; have T6 := below_then T4 hD6.bel; have fc6 := F6.cell; have zc6 := Z6.cell; have fl6 := F6.lt; have zl6 := Z6.lt; have x6 := k2.below T6)
      obtain ⟨eF, eE⟩ := HE3'.out t1
      obtain ⟨wf, hwf, Sf⟩ := store6 Z6 (.int .u16 0) (.bool false) (.bool false) (.int .u32 0) (.int .u32 0) (.slice none 0 0)
      rw [hwf, eF, eE]
      have pf := Sf.blk.cell
      exact bodyPost_ret (by simp [results, Try.results26, go_sem, pf]) rfl (frPost_no (Sf.bel T6 (by omega)))
    · by_cases t2 : 12 + nn < (n2 : Int)
      · go_wp2_with (go_at_call 55; ((with_reducible refine (rget16_any (some ⟨b, off, none⟩) n2 c2 l 4 w4 x4).mono ?_); rintro e w6 ⟨he6, hD6⟩); (rw [HNN.out] at he6); subst he6; have F6 := F4.below hD6.bel; have Z6 := Z4.below hD6.bel; have T6 := below_then T4 hD6.bel; have fc6 := F6.cell; have zc6 := Z6.cell; have fl6 := F6.lt; have zl6 := Z6.lt; have x6 := k2.below T6)
        obtain ⟨eF, eE⟩ := HE4'.out t2
        obtain ⟨wf, hwf, Sf⟩ := store6 Z6 (.int .u16 0) (.bool false) (.bool false) (.int .u32 0) (.int .u32 0) (.slice none 0 0)
        rw [hwf, eF, eE]
        have pf := Sf.blk.cell
        exact bodyPost_ret (by simp [results, Try.results26, go_sem, pf]) rfl (frPost_no (Sf.bel T6 (by omega)))
      · have hcut : ∀ W, (Instr.slice 24 (.slice (some ⟨b, off, none⟩) n2 c2) (some (.int .i64 12)) none none).run Try.prog W = _ := fun W => cut_l Try.underlying24 hi8 hs8 (some ⟨b, off, none⟩) n2 c2 .i64 12 (by omega) (by omega) W
        obtain ⟨A', n', c', eA, en, ec, hbD⟩ := k2.cutE (lo := 12) (hi := n2) (by omega) (Nat.le_refl _)
        simp only [show (12 : Int).toNat = 12 from rfl, eA, en, ec] at hcut
        rw [hlL] at hbD
        have hn' : n' ≤ n2 := by omega
        clear eA en ec
        go_wp2_with (first
          | (go_at_call 55; ((with_reducible refine (rget16_any (some ⟨b, off, none⟩) n2 c2 l 4 w4 x4).mono ?_); rintro e w6 ⟨he6, hD6⟩); (rw [HNN.out] at he6); subst he6; have F6 := F4.below hD6.bel; have Z6 := Z4.below hD6.bel; have T6 := below_then T4 hD6.bel; have fc6 := F6.cell; have zc6 := Z6.cell; have fl6 := F6.lt; have zl6 := Z6.lt; have x6 := k2.below T6)
          | (go_at_call 41; ((with_reducible refine (rget32_any (some ⟨b, off, none⟩) n2 c2 l 8 w6 x6).mono ?_); rintro e w7 ⟨rfl, hD7⟩); have F7 := F6.below hD7.bel; have fc7 := F7.cell; (obtain ⟨w8, hw8, S8⟩ := store1 F7 4 (.int .u32 (get32 l 8))); simp only [List.setIfInBounds_toArray, List.set_cons_zero, List.set_cons_succ] at S8; have F8 := S8.blk; have Z8 := S8.other hgz (Z6.below hD7.bel); have T8 := S8.bel (below_then T6 hD7.bel) hgf; have fc8 := F8.cell; have x8 := k2.below T8; have zl8 := Z8.lt))
        refine region_txt 5 (by kernel_rfl) (by kernel_rfl) ?_; (iterate 5 (first | (apply ObsK.skip (by rfl)) | (apply ObsK.v (by rfl); (intro wo hT; (repeat (first | (intro _ _ k; try have hcv := cv k))); (have gc := (F8.below hT).cell); refine Goes.mk ?_; go_simp; first | exact goes_v | exact goes_b (by assumption) | (refine goes_enter ?_; first | fail))) | (apply ObsK.b (by rfl); (intro wo hT; (repeat (first | (intro _ _ k; try have hcv := cv k))); (have gc := (F8.below hT).cell); refine Goes.mk ?_; go_simp; first | exact goes_v | exact goes_b (by assumption) | (refine goes_enter ?_; first | fail))))); refine ObsK.nil ?_; intro wz hBz; simp only [finOn, List.drop_succ_cons, List.drop_zero, List.drop_nil]
        go_simp
        have F20 := F8.below hBz
        have Z20 := Z8.below hBz
        have T20 := below_then T8 hBz
        have D20 := hbD.below T20
        have gl := F20.lt
        have gs := hBz.size
        have z20l := Z20.lt
        go_wp2_with (first
          | (at_builtin; refine wpList_append_bs (w0 := wz) _ rfl _ _ _ rfl wz.heap.size 5 Try.underlying24 info_u8 none 0 0 [] rfl (own_nil _ _ _) A' n' c' _ rfl D20 (Below.refl _ _) (by omega) (by first | exact Nat.le_refl _ | exact Below.size (Below.refl _ _) | omega | (simp <;> omega)) ?_; intro A7 n7 c7 w27 ho7 hB7 _ hz7; have u7 : n7 = n' := (by have := ho7.len; have := D20.len; simp at *; omega); subst u7; replace ho7 : Own w27 wz.heap.size 5 A7 n7 c7 (l.drop 12) := ho7; have F27 := F20.below hB7; have gc7 := F27.cell; (obtain ⟨w28, hw28, S28⟩ := store1 F27 5 (.slice A7 n7 c7)); simp only [List.setIfInBounds_toArray, List.set_cons_zero, List.set_cons_succ] at S28; have gc8 := S28.blk.cell; have Z28 := S28.other hgz (Z20.below hB7); have zc8 := Z28.cell; have T28 := S28.bel (below_then T20 hB7) hgf; have O28 := S28.own ho7 (fun a e => by have := ho7.ge a e; omega)))
        obtain ⟨eF, eE⟩ := HE0'.out (by omega)
        rw [HRD.out] at eF
        obtain ⟨wf, hwf, Sf⟩ := store6 Z28 (.int .u16 (get16 l 6)) (.bool false) (.bool true) (.int .u32 (0)) (.int .u32 (get32 l 8)) (.slice A7 n7 c7)
        rw [hwf, eF, eE]
        have pf := Sf.blk.cell
        have Of := Sf.own O28 (fun a e => by have := ho7.ge a e; omega)
        have s5 := T20.size
        exact bodyPost_ret (v := .tuple #[.agg #[.int .u16 (get16 l 6), .bool false, .bool true, .int .u32 (0), .int .u32 (get32 l 8), .slice A7 n7 c7], .int .i64 0]) (by simp [results, Try.results26, go_sem, pf]) rfl ⟨A7, n7, c7, rfl, Of.mono s5, Sf.bel T28 (by omega)⟩
  · simp only [if_true, if_false, Bool.false_eq_true, Nat.add_zero, Nat.reduceAdd] at hHd
    subst hHd
    have HRD : Hid (rdF l = ⟨get16 l 6, true, false, get32 l 8, 0, l.drop 12⟩) := HRd.out
    clear HRd
    have HE3' : Hid ((n2 : Int) < 12 + nn → geF p = zF ∧ geE p = 3) := HE3.out
    have HE4' : Hid (12 + nn < (n2 : Int) → geF p = zF ∧ geE p = 4) := HE4.out
    have HE0' : Hid (12 + nn = (n2 : Int) → geF p = rdF l ∧ geE p = 0) := HE0.out
    clear HE3 HE4 HE0
    by_cases t1 : (n2 : Int) < 12 + nn
    · go_wp2_with (go_at_call 55; ((with_reducible refine (rget16_any (some ⟨b, off, none⟩) n2 c2 l 4 w4 x4).mono ?_); rintro e w6 ⟨he6, hD6⟩); (rw [HNN.out] at he6); subst he6; have F6 := F4.below hD6.bel; have Z6 := Z4.below hD6.bel; have T6 := below_then T4 hD6.bel; have fc6 := F6.cell; have zc6 := Z6.cell; have fl6 := F6.lt; have zl6 := Z6.lt; have x6 := k2.below T6)
      obtain ⟨eF, eE⟩ := HE3'.out t1
      obtain ⟨wf, hwf, Sf⟩ := store6 Z6 (.int .u16 0) (.bool false) (.bool false) (.int .u32 0) (.int .u32 0) (.slice none 0 0)
      rw [hwf, eF, eE]
      have pf := Sf.blk.cell
      exact bodyPost_ret (by simp [results, Try.results26, go_sem, pf]) rfl (frPost_no (Sf.bel T6 (by omega)))
    · by_cases t2 : 12 + nn < (n2 : Int)
      · go_wp2_with (go_at_call 55; ((with_reducible refine (rget16_any (some ⟨b, off, none⟩) n2 c2 l 4 w4 x4).mono ?_); rintro e w6 ⟨he6, hD6⟩); (rw [HNN.out] at he6); subst he6; have F6 := F4.below hD6.bel; have Z6 := Z4.below hD6.bel; have T6 := below_then T4 hD6.bel; have fc6 := F6.cell; have zc6 := Z6.cell; have fl6 := F6.lt; have zl6 := Z6.lt; have x6 := k2.below T6)
        obtain ⟨eF, eE⟩ := HE4'.out t2
        obtain ⟨wf, hwf, Sf⟩ := store6 Z6 (.int .u16 0) (.bool false) (.bool false) (.int .u32 0) (.int .u32 0) (.slice none 0 0)
        rw [hwf, eF, eE]
        have pf := Sf.blk.cell
        exact bodyPost_ret (by simp [results, Try.results26, go_sem, pf]) rfl (frPost_no (Sf.bel T6 (by omega)))
      · have hcut : ∀ W, (Instr.slice 24 (.slice (some ⟨b, off, none⟩) n2 c2) (some (.int .i64 12)) none none).run Try.prog W = _ := fun W => cut_l Try.underlying24 hi8 hs8 (some ⟨b, off, none⟩) n2 c2 .i64 12 (by omega) (by omega) W
        obtain ⟨A', n', c', eA, en, ec, hbD⟩ := k2.cutE (lo := 12) (hi := n2) (by omega) (Nat.le_refl _)
        simp only [show (12 : Int).toNat = 12 from rfl, eA, en, ec] at hcut
        rw [hlL] at hbD
        have hn' : n' ≤ n2 := by omega
        clear eA en ec
        go_wp2_with (first
          | (go_at_call 55; ((with_reducible refine (rget16_any (some ⟨b, off, none⟩) n2 c2 l 4 w4 x4).mono ?_); rintro e w6 ⟨he6, hD6⟩); (rw [HNN.out] at he6); subst he6; have F6 := F4.below hD6.bel; have Z6 := Z4.below hD6.bel; have T6 := below_then T4 hD6.bel; have fc6 := F6.cell; have zc6 := Z6.cell; have fl6 := F6.lt; have zl6 := Z6.lt; have x6 := k2.below T6)
          | (go_at_call 41; ((with_reducible refine (rget32_any (some ⟨b, off, none⟩) n2 c2 l 8 w6 x6).mono ?_); rintro e w7 ⟨rfl, hD7⟩); have F7 := F6.below hD7.bel; have fc7 := F7.cell; (obtain ⟨w8, hw8, S8⟩ := store1 F7 3 (.int .u32 (get32 l 8))); simp only [List.setIfInBounds_toArray, List.set_cons_zero, List.set_cons_succ] at S8; have F8 := S8.blk; have Z8 := S8.other hgz (Z6.below hD7.bel); have T8 := S8.bel (below_then T6 hD7.bel) hgf; have fc8 := F8.cell; have x8 := k2.below T8; have zl8 := Z8.lt))
        refine region_txt 5 (by kernel_rfl) (by kernel_rfl) ?_; (iterate 5 (first | (apply ObsK.skip (by rfl)) | (apply ObsK.v (by rfl); (intro wo hT; (repeat (first | (intro _ _ k; try have hcv := cv k))); (have gc := (F8.below hT).cell); refine Goes.mk ?_; go_simp; first | exact goes_v | exact goes_b (by assumption) | (refine goes_enter ?_; first | fail))) | (apply ObsK.b (by rfl); (intro wo hT; (repeat (first | (intro _ _ k; try have hcv := cv k))); (have gc := (F8.below hT).cell); refine Goes.mk ?_; go_simp; first | exact goes_v | exact goes_b (by assumption) | (refine goes_enter ?_; first | fail))))); refine ObsK.nil ?_; intro wz hBz; simp only [finOn, List.drop_succ_cons, List.drop_zero, List.drop_nil]
        go_simp
        have F20 := F8.below hBz
        have Z20 := Z8.below hBz
        have T20 := below_then T8 hBz
        have D20 := hbD.below T20
        have gl := F20.lt
        have gs := hBz.size
        have z20l := Z20.lt
        go_wp2_with (first
          | (at_builtin; refine wpList_append_bs (w0 := wz) _ rfl _ _ _ rfl wz.heap.size 5 Try.underlying24 info_u8 none 0 0 [] rfl (own_nil _ _ _) A' n' c' _ rfl D20 (Below.refl _ _) (by omega) (by first | exact Nat.le_refl _ | exact Below.size (Below.refl _ _) | omega | (simp <;> omega)) ?_; intro A7 n7 c7 w27 ho7 hB7 _ hz7; have u7 : n7 = n' := (by have := ho7.len; have := D20.len; simp at *; omega); subst u7; replace ho7 : Own w27 wz.heap.size 5 A7 n7 c7 (l.drop 12) := ho7; have F27 := F20.below hB7; have gc7 := F27.cell; (obtain ⟨w28, hw28, S28⟩ := store1 F27 5 (.slice A7 n7 c7)); simp only [List.setIfInBounds_toArray, List.set_cons_zero, List.set_cons_succ] at S28; have gc8 := S28.blk.cell; have Z28 := S28.other hgz (Z20.below hB7); have zc8 := Z28.cell; have T28 := S28.bel (below_then T20 hB7) hgf; have O28 := S28.own ho7 (fun a e => by have := ho7.ge a e; omega)))
        obtain ⟨eF, eE⟩ := HE0'.out (by omega)
        rw [HRD.out] at eF
        obtain ⟨wf, hwf, Sf⟩ := store6 Z28 (.int .u16 (get16 l 6)) (.bool true) (.bool false) (.int .u32 (get32 l 8)) (.int .u32 (0)) (.slice A7 n7 c7)
        rw [hwf, eF, eE]
        have pf := Sf.blk.cell
        have Of := Sf.own O28 (fun a e => by have := ho7.ge a e; omega)
        have s5 := T20.size
        exact bodyPost_ret (v := .tuple #[.agg #[.int .u16 (get16 l 6), .bool true, .bool false, .int .u32 (get32 l 8), .int .u32 (0), .slice A7 n7 c7], .int .i64 0]) (by simp [results, Try.results26, go_sem, pf]) rfl ⟨A7, n7, c7, rfl, Of.mono s5, Sf.bel T28 (by omega)⟩
  · simp only [if_true, if_false, Bool.false_eq_true, Nat.add_zero, Nat.reduceAdd] at hHd
    subst hHd
    have HRD : Hid (rdF l = ⟨get16 l 6, true, true, get32 l 8, get32 l 12, l.drop 16⟩) := HRd.out
    clear HRd
    have HE3' : Hid ((n2 : Int) < 16 + nn → geF p = zF ∧ geE p = 3) := HE3.out
    have HE4' : Hid (16 + nn < (n2 : Int) → geF p = zF ∧ geE p = 4) := HE4.out
    have HE0' : Hid (16 + nn = (n2 : Int) → geF p = rdF l ∧ geE p = 0) := HE0.out
    clear HE3 HE4 HE0
    by_cases t1 : (n2 : Int) < 16 + nn
    · go_wp2_with (go_at_call 55; ((with_reducible refine (rget16_any (some ⟨b, off, none⟩) n2 c2 l 4 w4 x4).mono ?_); rintro e w6 ⟨he6, hD6⟩); (rw [HNN.out] at he6); subst he6; have F6 := F4.below hD6.bel; have Z6 := Z4.below hD6.bel; have T6 := below_then T4 hD6.bel; have fc6 := F6.cell; have zc6 := Z6.cell; have fl6 := F6.lt; have zl6 := Z6.lt; have x6 := k2.below T6)
      obtain ⟨eF, eE⟩ := HE3'.out t1
      obtain ⟨wf, hwf, Sf⟩ := store6 Z6 (.int .u16 0) (.bool false) (.bool false) (.int .u32 0) (.int .u32 0) (.slice none 0 0)
      rw [hwf, eF, eE]
      have pf := Sf.blk.cell
      exact bodyPost_ret (by simp [results, Try.results26, go_sem, pf]) rfl (frPost_no (Sf.bel T6 (by omega)))
    · by_cases t2 : 16 + nn < (n2 : Int)
      · go_wp2_with (go_at_call 55; ((with_reducible refine (rget16_any (some ⟨b, off, none⟩) n2 c2 l 4 w4 x4).mono ?_); rintro e w6 ⟨he6, hD6⟩); (rw [HNN.out] at he6); subst he6; have F6 := F4.below hD6.bel; have Z6 := Z4.below hD6.bel; have T6 := below_then T4 hD6.bel; have fc6 := F6.cell; have zc6 := Z6.cell; have fl6 := F6.lt; have zl6 := Z6.lt; have x6 := k2.below T6)
        obtain ⟨eF, eE⟩ := HE4'.out t2
        obtain ⟨wf, hwf, Sf⟩ := store6 Z6 (.int .u16 0) (.bool false) (.bool false) (.int .u32 0) (.int .u32 0) (.slice none 0 0)
        rw [hwf, eF, eE]
        have pf := Sf.blk.cell
        exact bodyPost_ret (by simp [results, Try.results26, go_sem, pf]) rfl (frPost_no (Sf.bel T6 (by omega)))
      · have hcut : ∀ W, (Instr.slice 24 (.slice (some ⟨b, off, none⟩) n2 c2) (some (.int .i64 16)) none none).run Try.prog W = _ := fun W => cut_l Try.underlying24 hi8 hs8 (some ⟨b, off, none⟩) n2 c2 .i64 16 (by omega) (by omega) W
        obtain ⟨A', n', c', eA, en, ec, hbD⟩ := k2.cutE (lo := 16) (hi := n2) (by omega) (Nat.le_refl _)
        simp only [show (16 : Int).toNat = 16 from rfl, eA, en, ec] at hcut
        rw [hlL] at hbD
        have hn' : n' ≤ n2 := by omega
        clear eA en ec
        go_wp2_with (first
          | (go_at_call 55; ((with_reducible refine (rget16_any (some ⟨b, off, none⟩) n2 c2 l 4 w4 x4).mono ?_); rintro e w6 ⟨he6, hD6⟩); (rw [HNN.out] at he6); subst he6; have F6 := F4.below hD6.bel; have Z6 := Z4.below hD6.bel; have T6 := below_then T4 hD6.bel; have fc6 := F6.cell; have zc6 := Z6.cell; have fl6 := F6.lt; have zl6 := Z6.lt; have x6 := k2.below T6)
          | (go_at_call 41; ((with_reducible refine (rget32_any (some ⟨b, off, none⟩) n2 c2 l 8 w6 x6).mono ?_); rintro e w7 ⟨rfl, hD7⟩); have F7 := F6.below hD7.bel; have fc7 := F7.cell; (obtain ⟨w8, hw8, S8⟩ := store1 F7 3 (.int .u32 (get32 l 8))); simp only [List.setIfInBounds_toArray, List.set_cons_zero, List.set_cons_succ] at S8; have F8 := S8.blk; have Z8 := S8.other hgz (Z6.below hD7.bel); have T8 := S8.bel (below_then T6 hD7.bel) hgf; have fc8 := F8.cell; have x8 := k2.below T8; have zl8 := Z8.lt)
          | (go_at_call 41; ((with_reducible refine (rget32_any (some ⟨b, off, none⟩) n2 c2 l 12 w8 x8).mono ?_); rintro e w9 ⟨rfl, hD9⟩); have F9 := F8.below hD9.bel; have fc9 := F9.cell; (obtain ⟨w10, hw10, S10⟩ := store1 F9 4 (.int .u32 (get32 l 12))); simp only [List.setIfInBounds_toArray, List.set_cons_zero, List.set_cons_succ] at S10; have F10 := S10.blk; have Z10 := S10.other hgz (Z8.below hD9.bel); have T10 := S10.bel (below_then T8 hD9.bel) hgf; have fc10 := F10.cell; have x10 := k2.below T10; have zl10 := Z10.lt))
        refine region_txt 5 (by kernel_rfl) (by kernel_rfl) ?_; (iterate 5 (first | (apply ObsK.skip (by rfl)) | (apply ObsK.v (by rfl); (intro wo hT; (repeat (first | (intro _ _ k; try have hcv := cv k))); (have gc := (F10.below hT).cell); refine Goes.mk ?_; go_simp; first | exact goes_v | exact goes_b (by assumption) | (refine goes_enter ?_; first | fail))) | (apply ObsK.b (by rfl); (intro wo hT; (repeat (first | (intro _ _ k; try have hcv := cv k))); (have gc := (F10.below hT).cell); refine Goes.mk ?_; go_simp; first | exact goes_v | exact goes_b (by assumption) | (refine goes_enter ?_; first | fail))))); refine ObsK.nil ?_; intro wz hBz; simp only [finOn, List.drop_succ_cons, List.drop_zero, List.drop_nil]
        go_simp
        have F20 := F10.below hBz
        have Z20 := Z10.below hBz
        have T20 := below_then T10 hBz
        have D20 := hbD.below T20
        have gl := F20.lt
        have gs := hBz.size
        have z20l := Z20.lt
        go_wp2_with (first
          | (at_builtin; refine wpList_append_bs (w0 := wz) _ rfl _ _ _ rfl wz.heap.size 5 Try.underlying24 info_u8 none 0 0 [] rfl (own_nil _ _ _) A' n' c' _ rfl D20 (Below.refl _ _) (by omega) (by first | exact Nat.le_refl _ | exact Below.size (Below.refl _ _) | omega | (simp <;> omega)) ?_; intro A7 n7 c7 w27 ho7 hB7 _ hz7; have u7 : n7 = n' := (by have := ho7.len; have := D20.len; simp at *; omega); subst u7; replace ho7 : Own w27 wz.heap.size 5 A7 n7 c7 (l.drop 16) := ho7; have F27 := F20.below hB7; have gc7 := F27.cell; (obtain ⟨w28, hw28, S28⟩ := store1 F27 5 (.slice A7 n7 c7)); simp only [List.setIfInBounds_toArray, List.set_cons_zero, List.set_cons_succ] at S28; have gc8 := S28.blk.cell; have Z28 := S28.other hgz (Z20.below hB7); have zc8 := Z28.cell; have T28 := S28.bel (below_then T20 hB7) hgf; have O28 := S28.own ho7 (fun a e => by have := ho7.ge a e; omega)))
        obtain ⟨eF, eE⟩ := HE0'.out (by omega)
        rw [HRD.out] at eF
        obtain ⟨wf, hwf, Sf⟩ := store6 Z28 (.int .u16 (get16 l 6)) (.bool true) (.bool true) (.int .u32 (get32 l 8)) (.int .u32 (get32 l 12)) (.slice A7 n7 c7)
        rw [hwf, eF, eE]
        have pf := Sf.blk.cell
        have Of := Sf.own O28 (fun a e => by have := ho7.ge a e; omega)
        have s5 := T20.size
        exact bodyPost_ret (v := .tuple #[.agg #[.int .u16 (get16 l 6), .bool true, .bool true, .int .u32 (get32 l 8), .int .u32 (get32 l 12), .slice A7 n7 c7], .int .i64 0]) (by simp [results, Try.results26, go_sem, pf]) rfl ⟨A7, n7, c7, rfl, Of.mono s5, Sf.bel T28 (by omega)⟩
theorem rgre_any (p : Pkt) (A1 : Option Addr) (n1 c1 : Nat) (A2 : Option Addr) (n2 c2 : Nat) (w : World) (k2 : Bs w A2 n2 c2 p.dat) :
    Calls Try.prog 26 #[(.agg #[.int .u8 (p).tos, .int .u16 (p).id, .bool (p).keep, .int .u8 (p).ttl, .int .u8 (p).proto, .int .u32 (p).src, .int .u32 (p).dst, .slice A1 n1 c1, .slice A2 n2 c2])] w (FrPost w (geF p) (geE p)) := by
  have l2 := k2.len
  by_cases h1 : p.proto = 47
  · have h1' : (p.proto != 47) = false := by simp [h1]
    by_cases h2 : 8 ≤ (n2 : Int)
    · cases hq : begB p.dat with
      | true => exact rgre_yes p A1 n1 c1 A2 n2 c2 w k2 h1' h2 hq
      | false =>
        have e : geE p = 4 := by unfold geE; rw [if_neg (by simp [h1]), l2, if_neg (by omega), if_pos hq]
        rw [show geF p = zF from by unfold geF; rw [e, if_neg (by decide)], e]
        exact rgre_no p A1 n1 c1 A2 n2 c2 w k2 4 (.inr (.inr ⟨rfl, h1', h2, hq⟩))
    · have e : geE p = 3 := by unfold geE; rw [if_neg (by simp [h1]), l2, if_pos (by omega)]
      rw [show geF p = zF from by unfold geF; rw [e, if_neg (by decide)], e]
      exact rgre_no p A1 n1 c1 A2 n2 c2 w k2 3 (.inr (.inl ⟨rfl, h1', by omega⟩))
  · have e : geE p = 12 := by unfold geE; rw [if_pos h1]
    rw [show geF p = zF from by unfold geF; rw [e, if_neg (by decide)], e]
    exact rgre_no p A1 n1 c1 A2 n2 c2 w k2 12 (.inl ⟨rfl, by simpa using h1⟩)
end Go.Proofs.Ytjhpmeagopdaiaa

namespace Go.Proofs.Ytjhpmeagopdaiaa
open Go.RowKit
set_option linter.unusedVariables false
set_option linter.unusedSimpArgs false
set_option linter.unusedSimpArgs false
set_option maxHeartbeats 4000000
set_option maxRecDepth 100000

theorem bs00 (W : World) : Bs (W.alloc (.cells #[.int .u8 0, .int .u8 0] 5)) (some ⟨W.heap.size, 0, none⟩) 2 2 [0, 0] := bs_lit (W := W) (e := 5) [0, 0] 2 rfl (by omega)
end Go.Proofs.Ytjhpmeagopdaiaa

namespace Go.Proofs.Ytjhpmeagopdaiaa
open Go.RowKit
set_option linter.unusedVariables false
set_option linter.unusedSimpArgs false
set_option linter.unusedSimpArgs false
set_option maxHeartbeats 4000000
set_option maxRecDepth 100000

theorem rdbuild_any (p : Pkt) (hp : p.Ok) (X1 : Option Addr) (m1 j1 : Nat) (X2 : Option Addr) (m2 j2 : Nat) (s : Dgm) (hs : s.Ok) (DA : Option Addr) (dn dc : Nat) (w : World) (k1 : Bs w X1 m1 j1 p.opt) (kd : Bs w DA dn dc s.dat) :
    Calls Try.prog 22 #[(.agg #[.int .u8 (p).tos, .int .u16 (p).id, .bool (p).keep, .int .u8 (p).ttl, .int .u8 (p).proto, .int .u32 (p).src, .int .u32 (p).dst, .slice X1 m1 j1, .slice X2 m2 j2]), (.agg #[.int .u16 (s).src, .int .u16 (s).dst, .bool (s).bare, .slice DA dn dc])] w (WiPost w (dbP p s) (dbE p s)) := by
  obtain ⟨⟨a0, a1⟩, ⟨d0, d1⟩⟩ := hs
  have ld := kd.len
  have l1 := k1.len
  have bd := kd.max
  have hsE : dbE p s = wiE p (8 + dn) := by unfold dbE; rw [ld]
  by_cases hbad : 40 < (m1 : Int) ∨ m1 % 4 ≠ 0
  · have HE : Hid (dbE p s = 4) := by unfold Hid; rw [hsE]; exact wiE_4 l1 hbad
    have HP : Hid (dbP p s = zP) := by unfold Hid dbP withP; rw [dS_len, ld, wiE_4 l1 hbad]; rfl
    have hw0 : ∀ W, Bs W X1 m1 j1 p.opt → Calls Try.prog 50 #[(.agg #[.int .u8 (p).tos, .int .u16 (p).id, .bool (p).keep, .int .u8 (p).ttl, .int .u8 (p).proto, .int .u32 (p).src, .int .u32 (p).dst, .slice X1 m1 j1, .slice X2 m2 j2]), .int .u8 17, .slice none 0 0] W (fun e w' => ∃ C1 e1 f1 C2 e2 f2, e = .returned (.tuple #[.agg #[.int .u8 0, .int .u16 0, .bool false, .int .u8 0, .int .u8 0, .int .u32 0, .int .u32 0, .slice C1 e1 f1, .slice C2 e2 f2], .int .i64 4]) ∧ Own w' W.heap.size 5 C1 e1 f1 [] ∧ Own w' W.heap.size 5 C2 e2 f2 [] ∧ Below W.heap.size W w') := fun W kk => by
      have hh := rwith_any p X1 m1 j1 X2 m2 j2 17 none 0 0 [] W kk (Bs.none_ W)
      unfold withP at hh
      rw [wiE_4 l1 hbad, if_neg (by decide)] at hh
      exact hh.mono fun e w' hq => hq.out
    clear hbad hsE l1 hp ld
    obtain ⟨k, hk⟩ : ∃ k : Nat, w.heap.size = k := ⟨_, rfl⟩
    obtain ⟨w1, hw1⟩ : ∃ W, (((w.alloc (.cells #[.int .u8 (p).tos, .int .u16 (p).id, .bool (p).keep, .int .u8 (p).ttl, .int .u8 (p).proto, .int .u32 (p).src, .int .u32 (p).dst, .slice X1 m1 j1, .slice X2 m2 j2] 26)).alloc (.cells #[.int .u16 (s).src, .int .u16 (s).dst, .bool (s).bare, .slice DA dn dc] 52)).alloc (.cells #[.int .u8 0, .int .u16 0, .bool false, .int .u8 0, .int .u8 0, .int .u32 0, .int .u32 0, .slice none 0 0, .slice none 0 0] 26)) = W := ⟨_, rfl⟩
    have P1 : Blk w1 k #[.int .u8 (p).tos, .int .u16 (p).id, .bool (p).keep, .int .u8 (p).ttl, .int .u8 (p).proto, .int .u32 (p).src, .int .u32 (p).dst, .slice X1 m1 j1, .slice X2 m2 j2] 26 := by rw [← hw1]; exact (((blk_new _ _ _ k (by simp [hk])).alloc _).alloc _)
    have S1 : Blk w1 (k + 1) #[.int .u16 (s).src, .int .u16 (s).dst, .bool (s).bare, .slice DA dn dc] 52 := by rw [← hw1]; exact ((blk_new _ _ _ (k + 1) (by simp [hk])).alloc _)
    have Z1 : Blk w1 (k + 1 + 1) #[.int .u8 0, .int .u16 0, .bool false, .int .u8 0, .int .u8 0, .int .u32 0, .int .u32 0, .slice none 0 0, .slice none 0 0] 26 := by rw [← hw1]; exact (blk_new _ _ _ (k + 1 + 1) (by simp [hk]))
    have R1 : Below w.heap.size w w1 := by rw [← hw1]; (repeat (first | with_reducible exact Below.refl _ _ | with_reducible refine below_drew ?_ | with_reducible refine below_drewN ?_ _ | with_reducible refine below_alloc ?_ (Nat.le_refl _) _ | with_reducible refine Below.setCell ?_ (by first | exact Nat.le_refl _ | (simp only []; omega)) _ | with_reducible assumption))
    have Pc1 := P1.cell
    have Sc1 := S1.cell
    have Zc1 := Z1.cell
    have Pl1 := P1.lt
    have Sl1 := S1.lt
    have Zl1 := Z1.lt
    have xx1 := (k1).below R1
    have yy1 := (kd).below R1
    go_enter Try.func22, Try.ntmps22
    go_wp2_with (go_at_call 50; ((with_reducible refine (hw0 w1 xx1).mono ?_); rintro e w2 ⟨C1, e1, f1, C2, e2, f2, rfl, O1, O2, hB2⟩); (obtain ⟨w3, hw3⟩ : ∃ W, w2.alloc (.cells #[.int .u8 0, .int .u16 0, .bool false, .int .u8 0, .int .u8 0, .int .u32 0, .int .u32 0, .slice C1 e1 f1, .slice C2 e2 f2] 26) = W := ⟨_, rfl⟩); have V3 : Below w2.heap.size w2 w3 := (by rw [← hw3]; (repeat (first | with_reducible exact Below.refl _ _ | with_reducible refine below_drew ?_ | with_reducible refine below_drewN ?_ _ | with_reducible refine below_alloc ?_ (Nat.le_refl _) _ | with_reducible refine Below.setCell ?_ (by first | exact Nat.le_refl _ | (simp only []; omega)) _ | with_reducible assumption))); have T3 := below_then hB2 V3; have Q3 : Blk w3 w2.heap.size #[.int .u8 0, .int .u16 0, .bool false, .int .u8 0, .int .u8 0, .int .u32 0, .int .u32 0, .slice C1 e1 f1, .slice C2 e2 f2] 26 := (by rw [← hw3]; exact blk_new w2 _ _ _ rfl); have qc3 := Q3.cell; have P3 := P1.below T3; have pc3 := P3.cell; have Z3 := Z1.below T3; have zc3 := Z3.cell; have S3 := S1.below T3; have sc3 := S3.cell; have R3 := below_then R1 T3)
    obtain ⟨wf, hwf, Sf⟩ := store9 Z3 (.int .u8 0) (.int .u16 0) (.bool false) (.int .u8 0) (.int .u8 0) (.int .u32 0) (.int .u32 0) (.slice none 0 0) (.slice none 0 0)
    rw [hwf]
    have pf := Sf.blk.cell
    exact bodyPost_ret (v := .tuple #[.agg #[.int .u8 0, .int .u16 0, .bool false, .int .u8 0, .int .u8 0, .int .u32 0, .int .u32 0, .slice none 0 0, .slice none 0 0], .int .i64 4]) (by simp [results, Try.results22, go_sem, pf]) rfl (by rw [HE.out, HP.out]; exact wiPost_no (Sf.bel R3 (by omega)))

  have h1 : (m1 : Int) ≤ 40 := by omega
  have h2 : m1 % 4 = 0 := by omega
  have hw0 : ∀ W, Bs W X1 m1 j1 p.opt → Calls Try.prog 50 #[(.agg #[.int .u8 (p).tos, .int .u16 (p).id, .bool (p).keep, .int .u8 (p).ttl, .int .u8 (p).proto, .int .u32 (p).src, .int .u32 (p).dst, .slice X1 m1 j1, .slice X2 m2 j2]), .int .u8 17, .slice none 0 0] W (fun e w' => ∃ C1 e1 f1 C2 e2 f2, e = .returned (.tuple #[.agg #[.int .u8 p.tos, .int .u16 p.id, .bool p.keep, .int .u8 p.ttl, .int .u8 17, .int .u32 p.src, .int .u32 p.dst, .slice C1 e1 f1, .slice C2 e2 f2], .int .i64 0]) ∧ Own w' W.heap.size 5 C1 e1 f1 p.opt ∧ Own w' W.heap.size 5 C2 e2 f2 [] ∧ Below W.heap.size W w') := fun W kk => by
    have hh := rwith_any p X1 m1 j1 X2 m2 j2 17 none 0 0 [] W kk (Bs.none_ W)
    unfold withP at hh
    rw [show ([] : List UInt8).length = 0 from rfl, wiE_0 l1 h1 h2 (by omega), if_pos rfl] at hh
    exact hh.mono fun e w' hq => hq.out
  have ho1 : ∀ w' (W : World) C1 e1 f1, Own w' W.heap.size 5 C1 e1 f1 p.opt → m1 = e1 := fun w' W C1 e1 f1 h => by rw [← h.len]; exact l1.symm
  by_cases h3 : 65535 < 28 + (m1 : Int) + (dn : Int)
  · have HE : Hid (dbE p s = 8) := by unfold Hid; rw [hsE]; exact wiE_8 l1 h1 h2 (by omega)
    have HP : Hid (dbP p s = zP) := by unfold Hid dbP withP; rw [dS_len, ld, wiE_8 l1 h1 h2 (by omega)]; rfl
    clear hbad hsE l1 hp ld
    obtain ⟨k, hk⟩ : ∃ k : Nat, w.heap.size = k := ⟨_, rfl⟩
    obtain ⟨w1, hw1⟩ : ∃ W, (((w.alloc (.cells #[.int .u8 (p).tos, .int .u16 (p).id, .bool (p).keep, .int .u8 (p).ttl, .int .u8 (p).proto, .int .u32 (p).src, .int .u32 (p).dst, .slice X1 m1 j1, .slice X2 m2 j2] 26)).alloc (.cells #[.int .u16 (s).src, .int .u16 (s).dst, .bool (s).bare, .slice DA dn dc] 52)).alloc (.cells #[.int .u8 0, .int .u16 0, .bool false, .int .u8 0, .int .u8 0, .int .u32 0, .int .u32 0, .slice none 0 0, .slice none 0 0] 26)) = W := ⟨_, rfl⟩
    have P1 : Blk w1 k #[.int .u8 (p).tos, .int .u16 (p).id, .bool (p).keep, .int .u8 (p).ttl, .int .u8 (p).proto, .int .u32 (p).src, .int .u32 (p).dst, .slice X1 m1 j1, .slice X2 m2 j2] 26 := by rw [← hw1]; exact (((blk_new _ _ _ k (by simp [hk])).alloc _).alloc _)
    have S1 : Blk w1 (k + 1) #[.int .u16 (s).src, .int .u16 (s).dst, .bool (s).bare, .slice DA dn dc] 52 := by rw [← hw1]; exact ((blk_new _ _ _ (k + 1) (by simp [hk])).alloc _)
    have Z1 : Blk w1 (k + 1 + 1) #[.int .u8 0, .int .u16 0, .bool false, .int .u8 0, .int .u8 0, .int .u32 0, .int .u32 0, .slice none 0 0, .slice none 0 0] 26 := by rw [← hw1]; exact (blk_new _ _ _ (k + 1 + 1) (by simp [hk]))
    have R1 : Below w.heap.size w w1 := by rw [← hw1]; (repeat (first | with_reducible exact Below.refl _ _ | with_reducible refine below_drew ?_ | with_reducible refine below_drewN ?_ _ | with_reducible refine below_alloc ?_ (Nat.le_refl _) _ | with_reducible refine Below.setCell ?_ (by first | exact Nat.le_refl _ | (simp only []; omega)) _ | with_reducible assumption))
    have Pc1 := P1.cell
    have Sc1 := S1.cell
    have Zc1 := Z1.cell
    have Pl1 := P1.lt
    have Sl1 := S1.lt
    have Zl1 := Z1.lt
    have xx1 := (k1).below R1
    have yy1 := (kd).below R1
    go_enter Try.func22, Try.ntmps22
    go_wp2_with (go_at_call 50; ((with_reducible refine (hw0 w1 xx1).mono ?_); rintro e w2 ⟨C1, e1, f1, C2, e2, f2, rfl, O1, O2, hB2⟩); have ue := ho1 _ w1 _ _ _ O1; subst ue; (obtain ⟨w3, hw3⟩ : ∃ W, w2.alloc (.cells #[.int .u8 p.tos, .int .u16 p.id, .bool p.keep, .int .u8 p.ttl, .int .u8 17, .int .u32 p.src, .int .u32 p.dst, .slice C1 m1 f1, .slice C2 e2 f2] 26) = W := ⟨_, rfl⟩); have V3 : Below w2.heap.size w2 w3 := (by rw [← hw3]; (repeat (first | with_reducible exact Below.refl _ _ | with_reducible refine below_drew ?_ | with_reducible refine below_drewN ?_ _ | with_reducible refine below_alloc ?_ (Nat.le_refl _) _ | with_reducible refine Below.setCell ?_ (by first | exact Nat.le_refl _ | (simp only []; omega)) _ | with_reducible assumption))); have T3 := below_then hB2 V3; have Q3 : Blk w3 w2.heap.size #[.int .u8 p.tos, .int .u16 p.id, .bool p.keep, .int .u8 p.ttl, .int .u8 17, .int .u32 p.src, .int .u32 p.dst, .slice C1 m1 f1, .slice C2 e2 f2] 26 := (by rw [← hw3]; exact blk_new w2 _ _ _ rfl); have qc3 := Q3.cell; have P3 := P1.below T3; have pc3 := P3.cell; have Z3 := Z1.below T3; have zc3 := Z3.cell; have S3 := S1.below T3; have sc3 := S3.cell; have R3 := below_then R1 T3)
    obtain ⟨wf, hwf, Sf⟩ := store9 Z3 (.int .u8 0) (.int .u16 0) (.bool false) (.int .u8 0) (.int .u8 0) (.int .u32 0) (.int .u32 0) (.slice none 0 0) (.slice none 0 0)
    rw [hwf]
    have pf := Sf.blk.cell
    exact bodyPost_ret (v := .tuple #[.agg #[.int .u8 0, .int .u16 0, .bool false, .int .u8 0, .int .u8 0, .int .u32 0, .int .u32 0, .slice none 0 0, .slice none 0 0], .int .i64 8]) (by simp [results, Try.results22, go_sem, pf]) rfl (by rw [HE.out, HP.out]; exact wiPost_no (Sf.bel R3 (by omega)))

  have hE0 : wiE p (8 + dn) = 0 := wiE_0 l1 h1 h2 (by omega)
  have HE : Hid (dbE p s = 0) := by unfold Hid; rw [hsE]; exact hE0
  have HP : Hid (dbP p s = { p with proto := 17, dat := dS p s }) := by unfold Hid dbP withP; rw [dS_len, ld, hE0, if_pos rfl]
  obtain ⟨z, hz⟩ : ∃ z : Int, (8 + (dn : Int)) % 65536 = z := ⟨_, rfl⟩
  have z0 : 0 ≤ z := by omega
  have z1 : z ≤ 65535 := by omega
  obtain ⟨y, hy⟩ : ∃ y : Int, 8 + (dn : Int) = y := ⟨_, rfl⟩
  have hw8 : IntKind.i64.wrap (8 + (dn : Int)) = y := by rw [IntKind.wrap_i64]; omega
  have hwy : IntKind.u16.wrap y = z := by rw [IntKind.wrap_u16]; omega
  have HX : Hid ((((([] ++ two s.src) ++ two s.dst) ++ two z) ++ [0, 0]) ++ s.dat = dL s) := by unfold Hid dL; rw [ld, hz]; simp [twos, two]; decide
  have HN : Hid ((dL s).length = 8 + dn) := by unfold Hid; rw [dL_len, ld]
  have HY := Lib.hid hy
  have h3' : 28 + (m1 : Int) + (dn : Int) ≤ 65535 := by omega
  obtain ⟨zz, hzz⟩ : ∃ z, psum p 17 (dL s) = z := ⟨_, rfl⟩
  have zz0 : 0 ≤ zz := by rw [← hzz]; exact csum_lo _
  have zz1 : zz ≤ 65535 := by rw [← hzz]; exact csum_hi _
  have hsum : ∀ W A n c, n ≤ 65535 → Bs W A n c (dL s) → Calls Try.prog 52 #[(.agg #[.int .u8 (p).tos, .int .u16 (p).id, .bool (p).keep, .int .u8 (p).ttl, .int .u8 (p).proto, .int .u32 (p).src, .int .u32 (p).dst, .slice X1 m1 j1, .slice X2 m2 j2]), .int .u8 17, .slice A n c] W fun e w' => e = .returned (.int .u16 zz) ∧ Below W.heap.size W w' := fun W A n c hn bo => by
    have := rssum_any p hp X1 m1 j1 X2 m2 j2 17 (by omega) (by omega) A n c (dL s) W bo (by omega)
    rw [← hzz]
    exact this
  have hw1' : ∀ W A n c, Bs W X1 m1 j1 p.opt → Bs W A n c (dS p s) → Calls Try.prog 50 #[(.agg #[.int .u8 (p).tos, .int .u16 (p).id, .bool (p).keep, .int .u8 (p).ttl, .int .u8 (p).proto, .int .u32 (p).src, .int .u32 (p).dst, .slice X1 m1 j1, .slice X2 m2 j2]), .int .u8 17, .slice A n c] W (fun e w' => ∃ C1 e1 f1 C2 e2 f2, e = .returned (.tuple #[.agg #[.int .u8 p.tos, .int .u16 p.id, .bool p.keep, .int .u8 p.ttl, .int .u8 17, .int .u32 p.src, .int .u32 p.dst, .slice C1 e1 f1, .slice C2 e2 f2], .int .i64 0]) ∧ Own w' W.heap.size 5 C1 e1 f1 p.opt ∧ Own w' W.heap.size 5 C2 e2 f2 (dS p s) ∧ Below W.heap.size W w') := fun W A n c kk ks => by
    have hh := rwith_any p X1 m1 j1 X2 m2 j2 17 A n c (dS p s) W kk ks
    unfold withP at hh
    rw [dS_len, ld, hE0, if_pos rfl] at hh
    exact hh.mono fun e w' hq => hq.out
  clear hbad hsE hp hE0 hz hy h3 l1 ld
  obtain ⟨k, hk⟩ : ∃ k : Nat, w.heap.size = k := ⟨_, rfl⟩
  obtain ⟨w1, hw1⟩ : ∃ W, (((w.alloc (.cells #[.int .u8 (p).tos, .int .u16 (p).id, .bool (p).keep, .int .u8 (p).ttl, .int .u8 (p).proto, .int .u32 (p).src, .int .u32 (p).dst, .slice X1 m1 j1, .slice X2 m2 j2] 26)).alloc (.cells #[.int .u16 (s).src, .int .u16 (s).dst, .bool (s).bare, .slice DA dn dc] 52)).alloc (.cells #[.int .u8 0, .int .u16 0, .bool false, .int .u8 0, .int .u8 0, .int .u32 0, .int .u32 0, .slice none 0 0, .slice none 0 0] 26)) = W := ⟨_, rfl⟩
  have P1 : Blk w1 k #[.int .u8 (p).tos, .int .u16 (p).id, .bool (p).keep, .int .u8 (p).ttl, .int .u8 (p).proto, .int .u32 (p).src, .int .u32 (p).dst, .slice X1 m1 j1, .slice X2 m2 j2] 26 := by rw [← hw1]; exact (((blk_new _ _ _ k (by simp [hk])).alloc _).alloc _)
  have S1 : Blk w1 (k + 1) #[.int .u16 (s).src, .int .u16 (s).dst, .bool (s).bare, .slice DA dn dc] 52 := by rw [← hw1]; exact ((blk_new _ _ _ (k + 1) (by simp [hk])).alloc _)
  have Z1 : Blk w1 (k + 1 + 1) #[.int .u8 0, .int .u16 0, .bool false, .int .u8 0, .int .u8 0, .int .u32 0, .int .u32 0, .slice none 0 0, .slice none 0 0] 26 := by rw [← hw1]; exact (blk_new _ _ _ (k + 1 + 1) (by simp [hk]))
  have R1 : Below w.heap.size w w1 := by rw [← hw1]; (repeat (first | with_reducible exact Below.refl _ _ | with_reducible refine below_drew ?_ | with_reducible refine below_drewN ?_ _ | with_reducible refine below_alloc ?_ (Nat.le_refl _) _ | with_reducible refine Below.setCell ?_ (by first | exact Nat.le_refl _ | (simp only []; omega)) _ | with_reducible assumption))
  have Pc1 := P1.cell
  have Sc1 := S1.cell
  have Zc1 := Z1.cell
  have Pl1 := P1.lt
  have Sl1 := S1.lt
  have Zl1 := Z1.lt
  have xx1 := (k1).below R1
  have yy1 := (kd).below R1
  go_enter Try.func22, Try.ntmps22
  go_wp2_with (go_at_call 50; ((with_reducible refine (hw0 w1 xx1).mono ?_); rintro e w2 ⟨C1, e1, f1, C2, e2, f2, rfl, O1, O2, hB2⟩); have ue := ho1 _ w1 _ _ _ O1; subst ue; (obtain ⟨w3, hw3⟩ : ∃ W, w2.alloc (.cells #[.int .u8 p.tos, .int .u16 p.id, .bool p.keep, .int .u8 p.ttl, .int .u8 17, .int .u32 p.src, .int .u32 p.dst, .slice C1 m1 f1, .slice C2 e2 f2] 26) = W := ⟨_, rfl⟩); have V3 : Below w2.heap.size w2 w3 := (by rw [← hw3]; (repeat (first | with_reducible exact Below.refl _ _ | with_reducible refine below_drew ?_ | with_reducible refine below_drewN ?_ _ | with_reducible refine below_alloc ?_ (Nat.le_refl _) _ | with_reducible refine Below.setCell ?_ (by first | exact Nat.le_refl _ | (simp only []; omega)) _ | with_reducible assumption))); have T3 := below_then hB2 V3; have Q3 : Blk w3 w2.heap.size #[.int .u8 p.tos, .int .u16 p.id, .bool p.keep, .int .u8 p.ttl, .int .u8 17, .int .u32 p.src, .int .u32 p.dst, .slice C1 m1 f1, .slice C2 e2 f2] 26 := (by rw [← hw3]; exact blk_new w2 _ _ _ rfl); have qc3 := Q3.cell; have P3 := P1.below T3; have pc3 := P3.cell; have Z3 := Z1.below T3; have zc3 := Z3.cell; have S3 := S1.below T3; have sc3 := S3.cell; have R3 := below_then R1 T3)
  have xx3 := xx1.below T3
  have yy3 := yy1.below T3
  have hk1 : w.heap.size ≤ k := Nat.le_of_eq hk
  have r3s := R3.size
  clear hw3 hw1 hk hw0
  refine region_txt 8 (by kernel_rfl) (by kernel_rfl) ?_; (iterate 8 (first | (apply ObsK.skip (by rfl)) | (apply ObsK.v (by rfl); (intro wo hT; (repeat (first | (intro v hv; (fail)) | (intro _ _ k; try have hcv := cv k))); (have sc := (S3.below hT).cell; have hsz : w3.heap.size ≤ wo.heap.size := hT.size); refine Goes.mk ?_; first | (exact goes_app _ _ rfl rfl (own_nil _ w3.heap.size _) rfl (by assumption) (by omega) hsz) | (go_simp; first | exact goes_v | exact goes_b (by assumption) | fail | (refine goes_enter ?_; first | (go_at_call 51; ((with_reducible refine (two_any s.src a0 a1 wo).mono ?_); rintro e w9 ⟨A9, c9, rfl, ho9, hB9⟩); exact ret_b ho9.bs hB9) | (go_at_call 51; ((with_reducible refine (two_any s.dst d0 d1 wo).mono ?_); rintro e w9 ⟨A9, c9, rfl, ho9, hB9⟩); exact ret_b ho9.bs hB9))))) | (apply ObsK.b (by rfl); (intro wo hT; (repeat (first | (intro v hv; (fail)) | (intro _ _ k; try have hcv := cv k))); (have sc := (S3.below hT).cell; have hsz : w3.heap.size ≤ wo.heap.size := hT.size); refine Goes.mk ?_; first | (exact goes_app _ _ rfl rfl (own_nil _ w3.heap.size _) rfl (by assumption) (by omega) hsz) | (go_simp; first | exact goes_v | exact goes_b (by assumption) | fail | (refine goes_enter ?_; first | (go_at_call 51; ((with_reducible refine (two_any s.src a0 a1 wo).mono ?_); rintro e w9 ⟨A9, c9, rfl, ho9, hB9⟩); exact ret_b ho9.bs hB9) | (go_at_call 51; ((with_reducible refine (two_any s.dst d0 d1 wo).mono ?_); rintro e w9 ⟨A9, c9, rfl, ho9, hB9⟩); exact ret_b ho9.bs hB9))))) | (apply ObsK.p (q := isW w3.heap.size ([] ++ two s.src)) (by rfl) st_isW; (intro wo hT; (repeat (first | (intro v hv; (fail)) | (intro _ _ k; try have hcv := cv k))); (have sc := (S3.below hT).cell; have hsz : w3.heap.size ≤ wo.heap.size := hT.size); refine Goes.mk ?_; first | (exact goes_app _ _ rfl rfl (own_nil _ w3.heap.size _) rfl (by assumption) (by omega) hsz) | (go_simp; first | exact goes_v | exact goes_b (by assumption) | fail | (refine goes_enter ?_; first | (go_at_call 51; ((with_reducible refine (two_any s.src a0 a1 wo).mono ?_); rintro e w9 ⟨A9, c9, rfl, ho9, hB9⟩); exact ret_b ho9.bs hB9) | (go_at_call 51; ((with_reducible refine (two_any s.dst d0 d1 wo).mono ?_); rintro e w9 ⟨A9, c9, rfl, ho9, hB9⟩); exact ret_b ho9.bs hB9))))))); refine ObsK.nil ?_; intro wz hBz; simp only [finOn, List.drop_succ_cons, List.drop_zero, List.drop_nil]
  rintro A12 c12 k12 v4 ⟨A10, n10, c10, rfl, O10⟩ A9 c9 k9
  go_simp
  have u10 : n10 = 2 := by rw [← O10.len]; rfl
  subst u10
  clear k9
  have z3l := Z3.lt
  rcases Bool.eq_false_or_eq_true s.bare with hb | hb
  · have HS : Hid (dL s = dS p s) := by unfold Hid dS; rw [hb, if_pos rfl]
    clear hsum hzz
    go_wp2_with (first
    | (at_builtin; refine wpList_append_bs (w0 := w3) _ rfl _ _ _ rfl w3.heap.size 5 Try.underlying24 info_u8 A10 2 c10 _ rfl O10 A12 2 c12 (two s.dst) rfl k12 hBz (by omega) (by first | exact Nat.le_refl _ | exact Below.size hBz | omega | (simp <;> omega)) ?_; intro A14 n14 c14 w14 O14' hB14 _ hz14; have u14 : 4 = n14 := (by rw [← O14'.len]; rfl); subst u14; have S14 := S3.below hB14; have sc14 := S14.cell)
    | (go_at_call 51; ((with_reducible refine (two_any z z0 z1 w14).mono ?_); rintro e w16 ⟨A16, c16, rfl, o16, hB16⟩); have O15' := O14'.below hB16; have T16 := below_then hB14 hB16)
    | (at_builtin; refine wpList_append_bs (w0 := w3) _ rfl _ _ _ rfl w3.heap.size 5 Try.underlying24 info_u8 A14 4 c14 _ rfl O15' A16 2 c16 (two z) rfl o16.bs T16 (by omega) (by first | exact Nat.le_refl _ | exact Below.size T16 | omega | (simp <;> omega)) ?_; intro A17 n17 c17 w17 O17 hB17 _ hz17; have u17 : 6 = n17 := (by rw [← O17.len]; rfl); subst u17)
    | (at_builtin; refine wpList_append_bs (w0 := w3) _ rfl _ _ _ rfl w3.heap.size 5 Try.underlying24 info_u8 A17 6 c17 _ rfl (O17.alloc _) (some ⟨_, 0, none⟩) 2 2 _ rfl (bs00 w17) (hB17.alloc hB17.size _) (by omega) (by first | exact Nat.le_refl _ | exact Below.size (hB17.alloc hB17.size _) | omega | (simp <;> omega)) ?_; intro A18 n18 c18 w18 O18 hB18 _ hz18; have u18 : 8 = n18 := (by rw [← O18.len]; rfl); subst u18; have S18 := S3.below hB18; have sc18 := S18.cell; have d18 := yy3.below hB18)
    | (at_builtin; refine wpList_append_bs (w0 := w3) _ rfl _ _ _ rfl w3.heap.size 5 Try.underlying24 info_u8 A18 8 c18 _ rfl O18 DA dn dc _ rfl d18 hB18 (by omega) (by first | exact Nat.le_refl _ | exact Below.size hB18 | omega | (simp <;> omega)) ?_; intro A22 n22 c22 w22 O22 hB22 _ hz22; rw [HX.out] at O22; have u22 : n22 ≤ 65535 := (by have h1 := O22.len; rw [HN.out] at h1; omega); have P22 := P3.below hB22; have pc22 := P22.cell; have S22 := S3.below hB22; have sc22 := S22.cell; have O22b := O22.bs; have xx22 := xx3.below hB22)
    | (go_at_call 50; ((with_reducible refine (hw1' w22 A22 n22 c22 xx22 (HS.out ▸ O22b)).mono ?_); rintro e w27 ⟨D1, g1', h1', D2, g2', h2', rfl, O13, O14, hB27⟩); have T27 := below_then hB22 hB27; have Z27 := Z3.below T27; have zc27 := Z27.cell))
    obtain ⟨wf, hwf, Sf⟩ := store9 Z27 (.int .u8 p.tos) (.int .u16 p.id) (.bool p.keep) (.int .u8 p.ttl) (.int .u8 17) (.int .u32 p.src) (.int .u32 p.dst) (.slice D1 g1' h1') (.slice D2 g2' h2')
    rw [hwf]
    have pf := Sf.blk.cell
    have t26 := hB22.size
    have Of := Sf.own O13 (fun a e => by have := O13.ge a e; omega)
    have Df := Sf.own O14 (fun a e => by have := O14.ge a e; omega)
    exact bodyPost_ret (v := .tuple #[.agg #[.int .u8 p.tos, .int .u16 p.id, .bool p.keep, .int .u8 p.ttl, .int .u8 17, .int .u32 p.src, .int .u32 p.dst, .slice D1 g1' h1', .slice D2 g2' h2'], .int .i64 0]) (by simp [results, Try.results22, go_sem, pf]) rfl (by rw [HE.out, HP.out]; exact ⟨⟨D1, g1', h1', D2, g2', h2', rfl, Of.mono (by omega), Df.mono (by omega), Sf.bel (below_then R3 T27) (by omega)⟩⟩)
  · have hsum2 := fun W A n c hn bo => (hsum W A n c hn bo)
    by_cases hz0 : zz = 0
    · subst hz0
      have HS : Hid (put16 (dL s) 6 65535 = dS p s) := by unfold Hid dS dZ; rw [hb, hzz]; rfl
      clear hzz
      go_wp2_with (first
      | (at_builtin; refine wpList_append_bs (w0 := w3) _ rfl _ _ _ rfl w3.heap.size 5 Try.underlying24 info_u8 A10 2 c10 _ rfl O10 A12 2 c12 (two s.dst) rfl k12 hBz (by omega) (by first | exact Nat.le_refl _ | exact Below.size hBz | omega | (simp <;> omega)) ?_; intro A14 n14 c14 w14 O14' hB14 _ hz14; have u14 : 4 = n14 := (by rw [← O14'.len]; rfl); subst u14; have S14 := S3.below hB14; have sc14 := S14.cell)
      | (go_at_call 51; ((with_reducible refine (two_any z z0 z1 w14).mono ?_); rintro e w16 ⟨A16, c16, rfl, o16, hB16⟩); have O15' := O14'.below hB16; have T16 := below_then hB14 hB16)
      | (at_builtin; refine wpList_append_bs (w0 := w3) _ rfl _ _ _ rfl w3.heap.size 5 Try.underlying24 info_u8 A14 4 c14 _ rfl O15' A16 2 c16 (two z) rfl o16.bs T16 (by omega) (by first | exact Nat.le_refl _ | exact Below.size T16 | omega | (simp <;> omega)) ?_; intro A17 n17 c17 w17 O17 hB17 _ hz17; have u17 : 6 = n17 := (by rw [← O17.len]; rfl); subst u17)
      | (at_builtin; refine wpList_append_bs (w0 := w3) _ rfl _ _ _ rfl w3.heap.size 5 Try.underlying24 info_u8 A17 6 c17 _ rfl (O17.alloc _) (some ⟨_, 0, none⟩) 2 2 _ rfl (bs00 w17) (hB17.alloc hB17.size _) (by omega) (by first | exact Nat.le_refl _ | exact Below.size (hB17.alloc hB17.size _) | omega | (simp <;> omega)) ?_; intro A18 n18 c18 w18 O18 hB18 _ hz18; have u18 : 8 = n18 := (by rw [← O18.len]; rfl); subst u18; have S18 := S3.below hB18; have sc18 := S18.cell; have d18 := yy3.below hB18)
      | (at_builtin; refine wpList_append_bs (w0 := w3) _ rfl _ _ _ rfl w3.heap.size 5 Try.underlying24 info_u8 A18 8 c18 _ rfl O18 DA dn dc _ rfl d18 hB18 (by omega) (by first | exact Nat.le_refl _ | exact Below.size hB18 | omega | (simp <;> omega)) ?_; intro A22 n22 c22 w22 O22 hB22 _ hz22; rw [HX.out] at O22; have u22 : n22 ≤ 65535 := (by have h1 := O22.len; rw [HN.out] at h1; omega); have P22 := P3.below hB22; have pc22 := P22.cell; have S22 := S3.below hB22; have sc22 := S22.cell; have O22b := O22.bs; have xx22 := xx3.below hB22)
      | (go_at_call 52; ((with_reducible refine (hsum2 w22 A22 n22 c22 u22 O22b).mono ?_); rintro e w25 ⟨rfl, hB25⟩); have T25 := below_then hB22 hB25; have O25 := O22b.below hB25)
      | (go_at_call 53; ((with_reducible refine (rput16_any A22 n22 c22 (dL s) 6 65535 (by omega) (by omega) _ O25).mono ?_); rintro e w26 ⟨A26, c26, rfl, O26, hB26⟩); rw [HS.out] at O26; have O26b := O26.bs; have T26 := below_then T25 hB26; have P26 := P3.below T26; have pc26 := P26.cell; have xx26 := xx3.below T26)
      | (go_at_call 50; ((with_reducible refine (hw1' w26 A26 n22 c26 xx26 O26b).mono ?_); rintro e w27 ⟨D1, g1', h1', D2, g2', h2', rfl, O13, O14, hB27⟩); have T27 := below_then T26 hB27; have Z27 := Z3.below T27; have zc27 := Z27.cell))
      obtain ⟨wf, hwf, Sf⟩ := store9 Z27 (.int .u8 p.tos) (.int .u16 p.id) (.bool p.keep) (.int .u8 p.ttl) (.int .u8 17) (.int .u32 p.src) (.int .u32 p.dst) (.slice D1 g1' h1') (.slice D2 g2' h2')
      rw [hwf]
      have pf := Sf.blk.cell
      have t26 := T26.size
      have Of := Sf.own O13 (fun a e => by have := O13.ge a e; omega)
      have Df := Sf.own O14 (fun a e => by have := O14.ge a e; omega)
      exact bodyPost_ret (v := .tuple #[.agg #[.int .u8 p.tos, .int .u16 p.id, .bool p.keep, .int .u8 p.ttl, .int .u8 17, .int .u32 p.src, .int .u32 p.dst, .slice D1 g1' h1', .slice D2 g2' h2'], .int .i64 0]) (by simp [results, Try.results22, go_sem, pf]) rfl (by rw [HE.out, HP.out]; exact ⟨⟨D1, g1', h1', D2, g2', h2', rfl, Of.mono (by omega), Df.mono (by omega), Sf.bel (below_then R3 T27) (by omega)⟩⟩)
    · have HS : Hid (put16 (dL s) 6 zz = dS p s) := by unfold Hid dS dZ; rw [hb, hzz, if_neg hz0]; rfl
      have z0b : (zz == 0) = false := by simpa using hz0
      clear hzz
      go_wp2_with (first
      | (at_builtin; refine wpList_append_bs (w0 := w3) _ rfl _ _ _ rfl w3.heap.size 5 Try.underlying24 info_u8 A10 2 c10 _ rfl O10 A12 2 c12 (two s.dst) rfl k12 hBz (by omega) (by first | exact Nat.le_refl _ | exact Below.size hBz | omega | (simp <;> omega)) ?_; intro A14 n14 c14 w14 O14' hB14 _ hz14; have u14 : 4 = n14 := (by rw [← O14'.len]; rfl); subst u14; have S14 := S3.below hB14; have sc14 := S14.cell)
      | (go_at_call 51; ((with_reducible refine (two_any z z0 z1 w14).mono ?_); rintro e w16 ⟨A16, c16, rfl, o16, hB16⟩); have O15' := O14'.below hB16; have T16 := below_then hB14 hB16)
      | (at_builtin; refine wpList_append_bs (w0 := w3) _ rfl _ _ _ rfl w3.heap.size 5 Try.underlying24 info_u8 A14 4 c14 _ rfl O15' A16 2 c16 (two z) rfl o16.bs T16 (by omega) (by first | exact Nat.le_refl _ | exact Below.size T16 | omega | (simp <;> omega)) ?_; intro A17 n17 c17 w17 O17 hB17 _ hz17; have u17 : 6 = n17 := (by rw [← O17.len]; rfl); subst u17)
      | (at_builtin; refine wpList_append_bs (w0 := w3) _ rfl _ _ _ rfl w3.heap.size 5 Try.underlying24 info_u8 A17 6 c17 _ rfl (O17.alloc _) (some ⟨_, 0, none⟩) 2 2 _ rfl (bs00 w17) (hB17.alloc hB17.size _) (by omega) (by first | exact Nat.le_refl _ | exact Below.size (hB17.alloc hB17.size _) | omega | (simp <;> omega)) ?_; intro A18 n18 c18 w18 O18 hB18 _ hz18; have u18 : 8 = n18 := (by rw [← O18.len]; rfl); subst u18; have S18 := S3.below hB18; have sc18 := S18.cell; have d18 := yy3.below hB18)
      | (at_builtin; refine wpList_append_bs (w0 := w3) _ rfl _ _ _ rfl w3.heap.size 5 Try.underlying24 info_u8 A18 8 c18 _ rfl O18 DA dn dc _ rfl d18 hB18 (by omega) (by first | exact Nat.le_refl _ | exact Below.size hB18 | omega | (simp <;> omega)) ?_; intro A22 n22 c22 w22 O22 hB22 _ hz22; rw [HX.out] at O22; have u22 : n22 ≤ 65535 := (by have h1 := O22.len; rw [HN.out] at h1; omega); have P22 := P3.below hB22; have pc22 := P22.cell; have S22 := S3.below hB22; have sc22 := S22.cell; have O22b := O22.bs; have xx22 := xx3.below hB22)
      | (go_at_call 52; ((with_reducible refine (hsum2 w22 A22 n22 c22 u22 O22b).mono ?_); rintro e w25 ⟨rfl, hB25⟩); have T25 := below_then hB22 hB25; have O25 := O22b.below hB25)
      | (go_at_call 53; ((with_reducible refine (rput16_any A22 n22 c22 (dL s) 6 zz zz0 zz1 _ O25).mono ?_); rintro e w26 ⟨A26, c26, rfl, O26, hB26⟩); rw [HS.out] at O26; have O26b := O26.bs; have T26 := below_then T25 hB26; have P26 := P3.below T26; have pc26 := P26.cell; have xx26 := xx3.below T26)
      | (go_at_call 50; ((with_reducible refine (hw1' w26 A26 n22 c26 xx26 O26b).mono ?_); rintro e w27 ⟨D1, g1', h1', D2, g2', h2', rfl, O13, O14, hB27⟩); have T27 := below_then T26 hB27; have Z27 := Z3.below T27; have zc27 := Z27.cell))
      obtain ⟨wf, hwf, Sf⟩ := store9 Z27 (.int .u8 p.tos) (.int .u16 p.id) (.bool p.keep) (.int .u8 p.ttl) (.int .u8 17) (.int .u32 p.src) (.int .u32 p.dst) (.slice D1 g1' h1') (.slice D2 g2' h2')
      rw [hwf]
      have pf := Sf.blk.cell
      have t26 := T26.size
      have Of := Sf.own O13 (fun a e => by have := O13.ge a e; omega)
      have Df := Sf.own O14 (fun a e => by have := O14.ge a e; omega)
      exact bodyPost_ret (v := .tuple #[.agg #[.int .u8 p.tos, .int .u16 p.id, .bool p.keep, .int .u8 p.ttl, .int .u8 17, .int .u32 p.src, .int .u32 p.dst, .slice D1 g1' h1', .slice D2 g2' h2'], .int .i64 0]) (by simp [results, Try.results22, go_sem, pf]) rfl (by rw [HE.out, HP.out]; exact ⟨⟨D1, g1', h1', D2, g2', h2', rfl, Of.mono (by omega), Df.mono (by omega), Sf.bel (below_then R3 T27) (by omega)⟩⟩)
end Go.Proofs.Ytjhpmeagopdaiaa

namespace Go.Proofs.Ytjhpmeagopdaiaa
open Go.RowKit
set_option linter.unusedVariables false
set_option linter.unusedSimpArgs false
set_option maxHeartbeats 8000000
set_option maxRecDepth 100000

theorem store34 {W : World} {r : Nat} {c0 c1 c2 c3 c4 : Value} {t : TypeId} (R : Blk W r #[c0, c1, c2, c3, c4] t) (v3 v4 : Value) :
    ∃ wf, ((W.setCell ⟨r, 3, none⟩ v3).setCell ⟨r, 4, none⟩ v4) = wf ∧ Sto W r wf #[c0, c1, c2, v3, v4] t := by
  have h := ((Sto.nil R).set 3 v3).set 4 v4
  simp only [List.setIfInBounds_toArray, List.set_cons_zero, List.set_cons_succ] at h
  exact ⟨_, rfl, h⟩
theorem store4_ {W : World} {r : Nat} {c0 c1 c2 c3 c4 : Value} {t : TypeId} (R : Blk W r #[c0, c1, c2, c3, c4] t) (v4 : Value) :
    ∃ wf, (W.setCell ⟨r, 4, none⟩ v4) = wf ∧ Sto W r wf #[c0, c1, c2, c3, v4] t := by
  have h := (Sto.nil R).set 4 v4
  simp only [List.setIfInBounds_toArray, List.set_cons_zero, List.set_cons_succ] at h
  exact ⟨_, rfl, h⟩
theorem rof_tcp_ (p : Pkt) (A1 : Option Addr) (n1 c1 : Nat) (A2 : Option Addr) (n2 c2 : Nat) (w : World) (k2 : Bs w A2 n2 c2 p.dat) (hpr : p.proto = 6) (s : Seg) (E : Int)
    (ht : ∀ W, Bs W A2 n2 c2 p.dat → Calls Try.prog 23 #[(.agg #[.int .u8 (p).tos, .int .u16 (p).id, .bool (p).keep, .int .u8 (p).ttl, .int .u8 (p).proto, .int .u32 (p).src, .int .u32 (p).dst, .slice A1 n1 c1, .slice A2 n2 c2])] W (TcPost W s E)) :
    Calls Try.prog 10 #[(.agg #[.int .u8 (p).tos, .int .u16 (p).id, .bool (p).keep, .int .u8 (p).ttl, .int .u8 (p).proto, .int .u32 (p).src, .int .u32 (p).dst, .slice A1 n1 c1, .slice A2 n2 c2])] w (TtPost w (tuP p s.src s.dst E) E) := by
  have y6 : (p.proto == 6) = true := by rw [hpr]; rfl
  clear hpr
  obtain ⟨k, hk⟩ : ∃ k : Nat, w.heap.size = k := ⟨_, rfl⟩
  obtain ⟨w1, hw1⟩ : ∃ W, (((w.alloc (.cells #[.int .u8 (p).tos, .int .u16 (p).id, .bool (p).keep, .int .u8 (p).ttl, .int .u8 (p).proto, .int .u32 (p).src, .int .u32 (p).dst, .slice A1 n1 c1, .slice A2 n2 c2] 26)).alloc (.cells #[.int .u8 0, .int .u32 0, .int .u32 0, .int .u16 0, .int .u16 0] 28)).alloc (.cells #[.int .u8 p.proto, .int .u32 p.src, .int .u32 p.dst, .int .u16 0, .int .u16 0] 28)) = W := ⟨_, rfl⟩
  have P1 : Blk w1 k #[.int .u8 (p).tos, .int .u16 (p).id, .bool (p).keep, .int .u8 (p).ttl, .int .u8 (p).proto, .int .u32 (p).src, .int .u32 (p).dst, .slice A1 n1 c1, .slice A2 n2 c2] 26 := by rw [← hw1]; exact (((blk_new _ _ _ k (by simp [hk])).alloc _).alloc _)
  have Z1 : Blk w1 (k + 1) #[.int .u8 0, .int .u32 0, .int .u32 0, .int .u16 0, .int .u16 0] 28 := by rw [← hw1]; exact ((blk_new _ _ _ (k + 1) (by simp [hk])).alloc _)
  have X1 : Blk w1 (k + 1 + 1) #[.int .u8 p.proto, .int .u32 p.src, .int .u32 p.dst, .int .u16 0, .int .u16 0] 28 := by rw [← hw1]; exact (blk_new _ _ _ (k + 1 + 1) (by simp [hk]))
  have R1 : Below w.heap.size w w1 := by rw [← hw1]; (repeat (first | with_reducible exact Below.refl _ _ | with_reducible refine below_drew ?_ | with_reducible refine below_drewN ?_ _ | with_reducible refine below_alloc ?_ (Nat.le_refl _) _ | with_reducible refine Below.setCell ?_ (by first | exact Nat.le_refl _ | (simp only []; omega)) _ | with_reducible assumption))
  have Pc1 := P1.cell
  have Zc1 := Z1.cell
  have Xc1 := X1.cell
  have Pl1 := P1.lt
  have Zl1 := Z1.lt
  have Xl1 := X1.lt
  have x1 := (k2).below R1
  have i3 : w1.setCell ⟨k + 1 + 1, 3, none⟩ (.int .u16 0) = w1 := X1.idle rfl
  have i4 : w1.setCell ⟨k + 1 + 1, 4, none⟩ (.int .u16 0) = w1 := X1.idle rfl
  by_cases h0 : E = 0
  case neg =>
    have h0b : (E != 0) = true := by simpa using h0
    have hz : tuP p s.src s.dst E = zT := by unfold tuP; rw [if_pos h0]
    rw [hz]
    clear h0 hz
    go_enter Try.func10, Try.ntmps10
    go_wp2_with (go_at_call 23; ((with_reducible refine (ht w1 x1).mono ?_); rintro e u2 ⟨⟨OA, on, oc, DA, dn, dc, rfl, -, -, -, hB2⟩⟩); (obtain ⟨w2, hw2⟩ : ∃ W, u2.alloc (.cells #[.int .u16 (s).src, .int .u16 (s).dst, .int .u32 (s).seq, .int .u32 (s).ack, .int .u8 (s).flags, .int .u16 (s).win, .int .u16 (s).urg, .slice OA on oc, .slice DA dn dc] 55) = W := ⟨_, rfl⟩); have V2 : Below u2.heap.size u2 w2 := (by rw [← hw2]; (repeat (first | with_reducible exact Below.refl _ _ | with_reducible refine below_drew ?_ | with_reducible refine below_drewN ?_ _ | with_reducible refine below_alloc ?_ (Nat.le_refl _) _ | with_reducible refine Below.setCell ?_ (by first | exact Nat.le_refl _ | (simp only []; omega)) _ | with_reducible assumption))); (obtain ⟨kS2, hkS2⟩ : ∃ k : Nat, u2.heap.size = k := ⟨_, rfl⟩); have S2 : Blk w2 kS2 #[.int .u16 (s).src, .int .u16 (s).dst, .int .u32 (s).seq, .int .u32 (s).ack, .int .u8 (s).flags, .int .u16 (s).win, .int .u16 (s).urg, .slice OA on oc, .slice DA dn dc] 55 := (by rw [← hw2]; exact blk_new u2 _ _ _ hkS2); have Sc2 := S2.cell; have T2 := below_then hB2 V2; have P2 := P1.below T2; have Pc2 := P2.cell; clear Pc1; have Z2 := Z1.below T2; have Zc2 := Z2.cell; clear Zc1; have X2 := X1.below T2; have Xc2 := X2.cell; clear Xc1; have x2 := x1.below T2; have R2 := below_then R1 T2)
    obtain ⟨wf, hwf, Sf⟩ := store5 Z2 (.int .u8 0) (.int .u32 0) (.int .u32 0) (.int .u16 0) (.int .u16 0)
    rw [hwf]
    have pf := Sf.blk.cell
    exact bodyPost_ret (v := .tuple #[(.agg #[.int .u8 (zT).proto, .int .u32 (zT).src, .int .u32 (zT).dst, .int .u16 (zT).sp, .int .u16 (zT).dp]), .int .i64 E]) (by simp [results, Try.results10, go_sem, pf, zT]) rfl ⟨⟨rfl, Sf.bel R2 (by omega)⟩⟩

  subst h0
  have hok : tuP p s.src s.dst 0 = ⟨p.proto, p.src, p.dst, s.src, s.dst⟩ := by unfold tuP; rw [if_neg (by simp)]
  rw [hok]
  clear hok
  go_enter Try.func10, Try.ntmps10
  go_wp2_with (go_at_call 23; ((with_reducible refine (ht w1 x1).mono ?_); rintro e u2 ⟨⟨OA, on, oc, DA, dn, dc, rfl, -, -, -, hB2⟩⟩); (obtain ⟨w2, hw2⟩ : ∃ W, u2.alloc (.cells #[.int .u16 (s).src, .int .u16 (s).dst, .int .u32 (s).seq, .int .u32 (s).ack, .int .u8 (s).flags, .int .u16 (s).win, .int .u16 (s).urg, .slice OA on oc, .slice DA dn dc] 55) = W := ⟨_, rfl⟩); have V2 : Below u2.heap.size u2 w2 := (by rw [← hw2]; (repeat (first | with_reducible exact Below.refl _ _ | with_reducible refine below_drew ?_ | with_reducible refine below_drewN ?_ _ | with_reducible refine below_alloc ?_ (Nat.le_refl _) _ | with_reducible refine Below.setCell ?_ (by first | exact Nat.le_refl _ | (simp only []; omega)) _ | with_reducible assumption))); (obtain ⟨kS2, hkS2⟩ : ∃ k : Nat, u2.heap.size = k := ⟨_, rfl⟩); have S2 : Blk w2 kS2 #[.int .u16 (s).src, .int .u16 (s).dst, .int .u32 (s).seq, .int .u32 (s).ack, .int .u8 (s).flags, .int .u16 (s).win, .int .u16 (s).urg, .slice OA on oc, .slice DA dn dc] 55 := (by rw [← hw2]; exact blk_new u2 _ _ _ hkS2); have Sc2 := S2.cell; have T2 := below_then hB2 V2; have P2 := P1.below T2; have Pc2 := P2.cell; clear Pc1; have Z2 := Z1.below T2; have Zc2 := Z2.cell; clear Zc1; have X2 := X1.below T2; have Xc2 := X2.cell; clear Xc1; have x2 := x1.below T2; have R2 := below_then R1 T2)
  have Xs := X2.set_ 3 (.int .u16 s.src)
  simp only [List.setIfInBounds_toArray, List.set_cons_zero, List.set_cons_succ] at Xs
  have Xsc := Xs.cell
  have hSl := X1.lt
  have hSg : w1.heap.size ≤ kS2 := by rw [← hkS2]; exact hB2.size
  have Ssc := (S2.far ⟨k + 1 + 1, 3, none⟩ (by show k + 1 + 1 ≠ kS2; omega) (.int .u16 s.src)).cell
  obtain ⟨w3, hw3, S3⟩ : ∃ wf, ((w2.setCell ⟨k + 1 + 1, 3, none⟩ (.int .u16 s.src)).setCell ⟨k + 1 + 1, 4, none⟩ (.int .u16 s.dst)).drew = wf ∧ Sto w2 (k + 1 + 1) wf #[.int .u8 p.proto, .int .u32 p.src, .int .u32 p.dst, .int .u16 s.src, .int .u16 s.dst] 28 := ⟨_, rfl, by
    have := (((Sto.nil X2).set 3 (.int .u16 s.src)).set 4 (.int .u16 s.dst)).drew
    simp only [List.setIfInBounds_toArray, List.set_cons_zero, List.set_cons_succ] at this
    exact this⟩
  go_region
  clear Xsc Ssc Xs
  have X3 := S3.blk
  have Xc3 := X3.cell
  have Z3 := S3.other (by omega) Z2
  have Zc3 := Z3.cell
  have R3 := S3.bel R2 (by omega)
  go_wp2_with fail
  obtain ⟨wf, hwf, Sf⟩ := store5 Z3 (.int .u8 p.proto) (.int .u32 p.src) (.int .u32 p.dst) (.int .u16 s.src) (.int .u16 s.dst)
  rw [hwf]
  have pf := Sf.blk.cell
  exact bodyPost_ret (v := .tuple #[(.agg #[.int .u8 ((⟨p.proto, p.src, p.dst, s.src, s.dst⟩ : Tup)).proto, .int .u32 ((⟨p.proto, p.src, p.dst, s.src, s.dst⟩ : Tup)).src, .int .u32 ((⟨p.proto, p.src, p.dst, s.src, s.dst⟩ : Tup)).dst, .int .u16 ((⟨p.proto, p.src, p.dst, s.src, s.dst⟩ : Tup)).sp, .int .u16 ((⟨p.proto, p.src, p.dst, s.src, s.dst⟩ : Tup)).dp]), .int .i64 0]) (by simp [results, Try.results10, go_sem, pf, zT]) rfl ⟨⟨rfl, Sf.bel R3 (by omega)⟩⟩

theorem rof_udp_ (p : Pkt) (A1 : Option Addr) (n1 c1 : Nat) (A2 : Option Addr) (n2 c2 : Nat) (w : World) (k2 : Bs w A2 n2 c2 p.dat) (hpr : p.proto = 17) (s : Dgm) (E : Int)
    (ht : ∀ W, Bs W A2 n2 c2 p.dat → Calls Try.prog 24 #[(.agg #[.int .u8 (p).tos, .int .u16 (p).id, .bool (p).keep, .int .u8 (p).ttl, .int .u8 (p).proto, .int .u32 (p).src, .int .u32 (p).dst, .slice A1 n1 c1, .slice A2 n2 c2])] W (DgPost W s E)) :
    Calls Try.prog 10 #[(.agg #[.int .u8 (p).tos, .int .u16 (p).id, .bool (p).keep, .int .u8 (p).ttl, .int .u8 (p).proto, .int .u32 (p).src, .int .u32 (p).dst, .slice A1 n1 c1, .slice A2 n2 c2])] w (TtPost w (tuP p s.src s.dst E) E) := by
  have hn6 : (p.proto == 6) = false := by rw [hpr]; rfl
  have y17 : (p.proto == 17) = true := by rw [hpr]; rfl
  clear hpr
  obtain ⟨k, hk⟩ : ∃ k : Nat, w.heap.size = k := ⟨_, rfl⟩
  obtain ⟨w1, hw1⟩ : ∃ W, (((w.alloc (.cells #[.int .u8 (p).tos, .int .u16 (p).id, .bool (p).keep, .int .u8 (p).ttl, .int .u8 (p).proto, .int .u32 (p).src, .int .u32 (p).dst, .slice A1 n1 c1, .slice A2 n2 c2] 26)).alloc (.cells #[.int .u8 0, .int .u32 0, .int .u32 0, .int .u16 0, .int .u16 0] 28)).alloc (.cells #[.int .u8 p.proto, .int .u32 p.src, .int .u32 p.dst, .int .u16 0, .int .u16 0] 28)) = W := ⟨_, rfl⟩
  have P1 : Blk w1 k #[.int .u8 (p).tos, .int .u16 (p).id, .bool (p).keep, .int .u8 (p).ttl, .int .u8 (p).proto, .int .u32 (p).src, .int .u32 (p).dst, .slice A1 n1 c1, .slice A2 n2 c2] 26 := by rw [← hw1]; exact (((blk_new _ _ _ k (by simp [hk])).alloc _).alloc _)
  have Z1 : Blk w1 (k + 1) #[.int .u8 0, .int .u32 0, .int .u32 0, .int .u16 0, .int .u16 0] 28 := by rw [← hw1]; exact ((blk_new _ _ _ (k + 1) (by simp [hk])).alloc _)
  have X1 : Blk w1 (k + 1 + 1) #[.int .u8 p.proto, .int .u32 p.src, .int .u32 p.dst, .int .u16 0, .int .u16 0] 28 := by rw [← hw1]; exact (blk_new _ _ _ (k + 1 + 1) (by simp [hk]))
  have R1 : Below w.heap.size w w1 := by rw [← hw1]; (repeat (first | with_reducible exact Below.refl _ _ | with_reducible refine below_drew ?_ | with_reducible refine below_drewN ?_ _ | with_reducible refine below_alloc ?_ (Nat.le_refl _) _ | with_reducible refine Below.setCell ?_ (by first | exact Nat.le_refl _ | (simp only []; omega)) _ | with_reducible assumption))
  have Pc1 := P1.cell
  have Zc1 := Z1.cell
  have Xc1 := X1.cell
  have Pl1 := P1.lt
  have Zl1 := Z1.lt
  have Xl1 := X1.lt
  have x1 := (k2).below R1
  have i3 : w1.setCell ⟨k + 1 + 1, 3, none⟩ (.int .u16 0) = w1 := X1.idle rfl
  have i4 : w1.setCell ⟨k + 1 + 1, 4, none⟩ (.int .u16 0) = w1 := X1.idle rfl
  by_cases h0 : E = 0
  case neg =>
    have h0b : (E != 0) = true := by simpa using h0
    have hz : tuP p s.src s.dst E = zT := by unfold tuP; rw [if_pos h0]
    rw [hz]
    clear h0 hz
    go_enter Try.func10, Try.ntmps10
    go_wp2_with (go_at_call 24; ((with_reducible refine (ht w1 x1).mono ?_); rintro e u2 ⟨⟨DA, dn, dc, rfl, -, hB2⟩⟩); (obtain ⟨w2, hw2⟩ : ∃ W, u2.alloc (.cells #[.int .u16 (s).src, .int .u16 (s).dst, .bool (s).bare, .slice DA dn dc] 52) = W := ⟨_, rfl⟩); have V2 : Below u2.heap.size u2 w2 := (by rw [← hw2]; (repeat (first | with_reducible exact Below.refl _ _ | with_reducible refine below_drew ?_ | with_reducible refine below_drewN ?_ _ | with_reducible refine below_alloc ?_ (Nat.le_refl _) _ | with_reducible refine Below.setCell ?_ (by first | exact Nat.le_refl _ | (simp only []; omega)) _ | with_reducible assumption))); (obtain ⟨kS2, hkS2⟩ : ∃ k : Nat, u2.heap.size = k := ⟨_, rfl⟩); have S2 : Blk w2 kS2 #[.int .u16 (s).src, .int .u16 (s).dst, .bool (s).bare, .slice DA dn dc] 52 := (by rw [← hw2]; exact blk_new u2 _ _ _ hkS2); have Sc2 := S2.cell; have T2 := below_then hB2 V2; have P2 := P1.below T2; have Pc2 := P2.cell; clear Pc1; have Z2 := Z1.below T2; have Zc2 := Z2.cell; clear Zc1; have X2 := X1.below T2; have Xc2 := X2.cell; clear Xc1; have x2 := x1.below T2; have R2 := below_then R1 T2)
    obtain ⟨wf, hwf, Sf⟩ := store5 Z2 (.int .u8 0) (.int .u32 0) (.int .u32 0) (.int .u16 0) (.int .u16 0)
    rw [hwf]
    have pf := Sf.blk.cell
    exact bodyPost_ret (v := .tuple #[(.agg #[.int .u8 (zT).proto, .int .u32 (zT).src, .int .u32 (zT).dst, .int .u16 (zT).sp, .int .u16 (zT).dp]), .int .i64 E]) (by simp [results, Try.results10, go_sem, pf, zT]) rfl ⟨⟨rfl, Sf.bel R2 (by omega)⟩⟩

  subst h0
  have hok : tuP p s.src s.dst 0 = ⟨p.proto, p.src, p.dst, s.src, s.dst⟩ := by unfold tuP; rw [if_neg (by simp)]
  rw [hok]
  clear hok
  go_enter Try.func10, Try.ntmps10
  go_wp2_with (go_at_call 24; ((with_reducible refine (ht w1 x1).mono ?_); rintro e u2 ⟨⟨DA, dn, dc, rfl, -, hB2⟩⟩); (obtain ⟨w2, hw2⟩ : ∃ W, u2.alloc (.cells #[.int .u16 (s).src, .int .u16 (s).dst, .bool (s).bare, .slice DA dn dc] 52) = W := ⟨_, rfl⟩); have V2 : Below u2.heap.size u2 w2 := (by rw [← hw2]; (repeat (first | with_reducible exact Below.refl _ _ | with_reducible refine below_drew ?_ | with_reducible refine below_drewN ?_ _ | with_reducible refine below_alloc ?_ (Nat.le_refl _) _ | with_reducible refine Below.setCell ?_ (by first | exact Nat.le_refl _ | (simp only []; omega)) _ | with_reducible assumption))); (obtain ⟨kS2, hkS2⟩ : ∃ k : Nat, u2.heap.size = k := ⟨_, rfl⟩); have S2 : Blk w2 kS2 #[.int .u16 (s).src, .int .u16 (s).dst, .bool (s).bare, .slice DA dn dc] 52 := (by rw [← hw2]; exact blk_new u2 _ _ _ hkS2); have Sc2 := S2.cell; have T2 := below_then hB2 V2; have P2 := P1.below T2; have Pc2 := P2.cell; clear Pc1; have Z2 := Z1.below T2; have Zc2 := Z2.cell; clear Zc1; have X2 := X1.below T2; have Xc2 := X2.cell; clear Xc1; have x2 := x1.below T2; have R2 := below_then R1 T2)
  have Xs := X2.set_ 3 (.int .u16 s.src)
  simp only [List.setIfInBounds_toArray, List.set_cons_zero, List.set_cons_succ] at Xs
  have Xsc := Xs.cell
  have hSl := X1.lt
  have hSg : w1.heap.size ≤ kS2 := by rw [← hkS2]; exact hB2.size
  have Ssc := (S2.far ⟨k + 1 + 1, 3, none⟩ (by show k + 1 + 1 ≠ kS2; omega) (.int .u16 s.src)).cell
  obtain ⟨w3, hw3, S3⟩ : ∃ wf, ((w2.setCell ⟨k + 1 + 1, 3, none⟩ (.int .u16 s.src)).setCell ⟨k + 1 + 1, 4, none⟩ (.int .u16 s.dst)).drew = wf ∧ Sto w2 (k + 1 + 1) wf #[.int .u8 p.proto, .int .u32 p.src, .int .u32 p.dst, .int .u16 s.src, .int .u16 s.dst] 28 := ⟨_, rfl, by
    have := (((Sto.nil X2).set 3 (.int .u16 s.src)).set 4 (.int .u16 s.dst)).drew
    simp only [List.setIfInBounds_toArray, List.set_cons_zero, List.set_cons_succ] at this
    exact this⟩
  go_region
  clear Xsc Ssc Xs
  have X3 := S3.blk
  have Xc3 := X3.cell
  have Z3 := S3.other (by omega) Z2
  have Zc3 := Z3.cell
  have R3 := S3.bel R2 (by omega)
  go_wp2_with fail
  obtain ⟨wf, hwf, Sf⟩ := store5 Z3 (.int .u8 p.proto) (.int .u32 p.src) (.int .u32 p.dst) (.int .u16 s.src) (.int .u16 s.dst)
  rw [hwf]
  have pf := Sf.blk.cell
  exact bodyPost_ret (v := .tuple #[(.agg #[.int .u8 ((⟨p.proto, p.src, p.dst, s.src, s.dst⟩ : Tup)).proto, .int .u32 ((⟨p.proto, p.src, p.dst, s.src, s.dst⟩ : Tup)).src, .int .u32 ((⟨p.proto, p.src, p.dst, s.src, s.dst⟩ : Tup)).dst, .int .u16 ((⟨p.proto, p.src, p.dst, s.src, s.dst⟩ : Tup)).sp, .int .u16 ((⟨p.proto, p.src, p.dst, s.src, s.dst⟩ : Tup)).dp]), .int .i64 0]) (by simp [results, Try.results10, go_sem, pf, zT]) rfl ⟨⟨rfl, Sf.bel R3 (by omega)⟩⟩

theorem rof_gre_ (p : Pkt) (A1 : Option Addr) (n1 c1 : Nat) (A2 : Option Addr) (n2 c2 : Nat) (w : World) (k2 : Bs w A2 n2 c2 p.dat) (hpr : p.proto = 47) (s : Frm) (E : Int)
    (ht : ∀ W, Bs W A2 n2 c2 p.dat → Calls Try.prog 26 #[(.agg #[.int .u8 (p).tos, .int .u16 (p).id, .bool (p).keep, .int .u8 (p).ttl, .int .u8 (p).proto, .int .u32 (p).src, .int .u32 (p).dst, .slice A1 n1 c1, .slice A2 n2 c2])] W (FrPost W s E)) :
    Calls Try.prog 10 #[(.agg #[.int .u8 (p).tos, .int .u16 (p).id, .bool (p).keep, .int .u8 (p).ttl, .int .u8 (p).proto, .int .u32 (p).src, .int .u32 (p).dst, .slice A1 n1 c1, .slice A2 n2 c2])] w (TtPost w (tuP p 0 s.call E) E) := by
  have hn6 : (p.proto == 6) = false := by rw [hpr]; rfl
  have hn17 : (p.proto == 17) = false := by rw [hpr]; rfl
  have hn1 : (p.proto == 1) = false := by rw [hpr]; rfl
  have y47 : (p.proto == 47) = true := by rw [hpr]; rfl
  clear hpr
  obtain ⟨k, hk⟩ : ∃ k : Nat, w.heap.size = k := ⟨_, rfl⟩
  obtain ⟨w1, hw1⟩ : ∃ W, (((w.alloc (.cells #[.int .u8 (p).tos, .int .u16 (p).id, .bool (p).keep, .int .u8 (p).ttl, .int .u8 (p).proto, .int .u32 (p).src, .int .u32 (p).dst, .slice A1 n1 c1, .slice A2 n2 c2] 26)).alloc (.cells #[.int .u8 0, .int .u32 0, .int .u32 0, .int .u16 0, .int .u16 0] 28)).alloc (.cells #[.int .u8 p.proto, .int .u32 p.src, .int .u32 p.dst, .int .u16 0, .int .u16 0] 28)) = W := ⟨_, rfl⟩
  have P1 : Blk w1 k #[.int .u8 (p).tos, .int .u16 (p).id, .bool (p).keep, .int .u8 (p).ttl, .int .u8 (p).proto, .int .u32 (p).src, .int .u32 (p).dst, .slice A1 n1 c1, .slice A2 n2 c2] 26 := by rw [← hw1]; exact (((blk_new _ _ _ k (by simp [hk])).alloc _).alloc _)
  have Z1 : Blk w1 (k + 1) #[.int .u8 0, .int .u32 0, .int .u32 0, .int .u16 0, .int .u16 0] 28 := by rw [← hw1]; exact ((blk_new _ _ _ (k + 1) (by simp [hk])).alloc _)
  have X1 : Blk w1 (k + 1 + 1) #[.int .u8 p.proto, .int .u32 p.src, .int .u32 p.dst, .int .u16 0, .int .u16 0] 28 := by rw [← hw1]; exact (blk_new _ _ _ (k + 1 + 1) (by simp [hk]))
  have R1 : Below w.heap.size w w1 := by rw [← hw1]; (repeat (first | with_reducible exact Below.refl _ _ | with_reducible refine below_drew ?_ | with_reducible refine below_drewN ?_ _ | with_reducible refine below_alloc ?_ (Nat.le_refl _) _ | with_reducible refine Below.setCell ?_ (by first | exact Nat.le_refl _ | (simp only []; omega)) _ | with_reducible assumption))
  have Pc1 := P1.cell
  have Zc1 := Z1.cell
  have Xc1 := X1.cell
  have Pl1 := P1.lt
  have Zl1 := Z1.lt
  have Xl1 := X1.lt
  have x1 := (k2).below R1
  have i3 : w1.setCell ⟨k + 1 + 1, 3, none⟩ (.int .u16 0) = w1 := X1.idle rfl
  have i4 : w1.setCell ⟨k + 1 + 1, 4, none⟩ (.int .u16 0) = w1 := X1.idle rfl
  by_cases h0 : E = 0
  case neg =>
    have h0b : (E != 0) = true := by simpa using h0
    have hz : tuP p 0 s.call E = zT := by unfold tuP; rw [if_pos h0]
    rw [hz]
    clear h0 hz
    go_enter Try.func10, Try.ntmps10
    go_wp2_with (go_at_call 26; ((with_reducible refine (ht w1 x1).mono ?_); rintro e u2 ⟨⟨DA, dn, dc, rfl, -, hB2⟩⟩); (obtain ⟨w2, hw2⟩ : ∃ W, u2.alloc (.cells #[.int .u16 (s).call, .bool (s).hs, .bool (s).ha, .int .u32 (s).seq, .int .u32 (s).ack, .slice DA dn dc] 63) = W := ⟨_, rfl⟩); have V2 : Below u2.heap.size u2 w2 := (by rw [← hw2]; (repeat (first | with_reducible exact Below.refl _ _ | with_reducible refine below_drew ?_ | with_reducible refine below_drewN ?_ _ | with_reducible refine below_alloc ?_ (Nat.le_refl _) _ | with_reducible refine Below.setCell ?_ (by first | exact Nat.le_refl _ | (simp only []; omega)) _ | with_reducible assumption))); (obtain ⟨kS2, hkS2⟩ : ∃ k : Nat, u2.heap.size = k := ⟨_, rfl⟩); have S2 : Blk w2 kS2 #[.int .u16 (s).call, .bool (s).hs, .bool (s).ha, .int .u32 (s).seq, .int .u32 (s).ack, .slice DA dn dc] 63 := (by rw [← hw2]; exact blk_new u2 _ _ _ hkS2); have Sc2 := S2.cell; have T2 := below_then hB2 V2; have P2 := P1.below T2; have Pc2 := P2.cell; clear Pc1; have Z2 := Z1.below T2; have Zc2 := Z2.cell; clear Zc1; have X2 := X1.below T2; have Xc2 := X2.cell; clear Xc1; have x2 := x1.below T2; have R2 := below_then R1 T2)
    obtain ⟨wf, hwf, Sf⟩ := store5 Z2 (.int .u8 0) (.int .u32 0) (.int .u32 0) (.int .u16 0) (.int .u16 0)
    rw [hwf]
    have pf := Sf.blk.cell
    exact bodyPost_ret (v := .tuple #[(.agg #[.int .u8 (zT).proto, .int .u32 (zT).src, .int .u32 (zT).dst, .int .u16 (zT).sp, .int .u16 (zT).dp]), .int .i64 E]) (by simp [results, Try.results10, go_sem, pf, zT]) rfl ⟨⟨rfl, Sf.bel R2 (by omega)⟩⟩

  subst h0
  have hok : tuP p 0 s.call 0 = ⟨p.proto, p.src, p.dst, 0, s.call⟩ := by unfold tuP; rw [if_neg (by simp)]
  rw [hok]
  clear hok
  go_enter Try.func10, Try.ntmps10
  go_wp2_with (go_at_call 26; ((with_reducible refine (ht w1 x1).mono ?_); rintro e u2 ⟨⟨DA, dn, dc, rfl, -, hB2⟩⟩); (obtain ⟨w2, hw2⟩ : ∃ W, u2.alloc (.cells #[.int .u16 (s).call, .bool (s).hs, .bool (s).ha, .int .u32 (s).seq, .int .u32 (s).ack, .slice DA dn dc] 63) = W := ⟨_, rfl⟩); have V2 : Below u2.heap.size u2 w2 := (by rw [← hw2]; (repeat (first | with_reducible exact Below.refl _ _ | with_reducible refine below_drew ?_ | with_reducible refine below_drewN ?_ _ | with_reducible refine below_alloc ?_ (Nat.le_refl _) _ | with_reducible refine Below.setCell ?_ (by first | exact Nat.le_refl _ | (simp only []; omega)) _ | with_reducible assumption))); (obtain ⟨kS2, hkS2⟩ : ∃ k : Nat, u2.heap.size = k := ⟨_, rfl⟩); have S2 : Blk w2 kS2 #[.int .u16 (s).call, .bool (s).hs, .bool (s).ha, .int .u32 (s).seq, .int .u32 (s).ack, .slice DA dn dc] 63 := (by rw [← hw2]; exact blk_new u2 _ _ _ hkS2); have Sc2 := S2.cell; have T2 := below_then hB2 V2; have P2 := P1.below T2; have Pc2 := P2.cell; clear Pc1; have Z2 := Z1.below T2; have Zc2 := Z2.cell; clear Zc1; have X2 := X1.below T2; have Xc2 := X2.cell; clear Xc1; have x2 := x1.below T2; have R2 := below_then R1 T2; (obtain ⟨w3, hw3, S3⟩ := store4_ X2 (.int .u16 s.call)); have X3 := S3.blk; have Xc3 := X3.cell; have Z3 := S3.other (by omega) Z2; have Zc3 := Z3.cell; have R3 := S3.bel R2 (by omega))
  obtain ⟨wf, hwf, Sf⟩ := store5 Z3 (.int .u8 p.proto) (.int .u32 p.src) (.int .u32 p.dst) (.int .u16 0) (.int .u16 s.call)
  rw [hwf]
  have pf := Sf.blk.cell
  exact bodyPost_ret (v := .tuple #[(.agg #[.int .u8 ((⟨p.proto, p.src, p.dst, 0, s.call⟩ : Tup)).proto, .int .u32 ((⟨p.proto, p.src, p.dst, 0, s.call⟩ : Tup)).src, .int .u32 ((⟨p.proto, p.src, p.dst, 0, s.call⟩ : Tup)).dst, .int .u16 ((⟨p.proto, p.src, p.dst, 0, s.call⟩ : Tup)).sp, .int .u16 ((⟨p.proto, p.src, p.dst, 0, s.call⟩ : Tup)).dp]), .int .i64 0]) (by simp [results, Try.results10, go_sem, pf, zT]) rfl ⟨⟨rfl, Sf.bel R3 (by omega)⟩⟩

theorem rof_icmp_ (p : Pkt) (A1 : Option Addr) (n1 c1 : Nat) (A2 : Option Addr) (n2 c2 : Nat) (w : World) (k2 : Bs w A2 n2 c2 p.dat) (hpr : p.proto = 1) (s : Msg) (hs : s.Ok) (E : Int)
    (ht : ∀ W, Bs W A2 n2 c2 p.dat → Calls Try.prog 16 #[(.agg #[.int .u8 (p).tos, .int .u16 (p).id, .bool (p).keep, .int .u8 (p).ttl, .int .u8 (p).proto, .int .u32 (p).src, .int .u32 (p).dst, .slice A1 n1 c1, .slice A2 n2 c2])] W (MsPost W s E)) :
    Calls Try.prog 10 #[(.agg #[.int .u8 (p).tos, .int .u16 (p).id, .bool (p).keep, .int .u8 (p).ttl, .int .u8 (p).proto, .int .u32 (p).src, .int .u32 (p).dst, .slice A1 n1 c1, .slice A2 n2 c2])] w (TtPost w (tuP p (s.rest / 65536) (s.rest / 65536) (picE E s)) (picE E s)) := by
  have n6 : (p.proto == 6) = false := by rw [hpr]; rfl
  have n17 : (p.proto == 17) = false := by rw [hpr]; rfl
  have y1 : (p.proto == 1) = true := by rw [hpr]; rfl
  clear hpr
  obtain ⟨r0, r1⟩ := hs.rest
  have hc := fun B b1 b2 W => risecho_any s B b1 b2 W
  obtain ⟨q, hq⟩ : ∃ q, s.rest / 65536 = q := ⟨_, rfl⟩
  have hq0 : 0 ≤ q ∧ q ≤ 65535 := by omega
  have hq1 : q % 65536 = q := by omega
  rw [hq]
  obtain ⟨b, hb⟩ : ∃ b, isEchoM s = b := ⟨_, rfl⟩
  have HE : Hid (picE E s = if E = 0 ∧ b = false then 12 else E) := by unfold Hid picE; rw [hb]
  rw [hb] at hc
  rw [HE.out]
  clear hb hs HE
  obtain ⟨k, hk⟩ : ∃ k : Nat, w.heap.size = k := ⟨_, rfl⟩
  obtain ⟨w1, hw1⟩ : ∃ W, (((w.alloc (.cells #[.int .u8 (p).tos, .int .u16 (p).id, .bool (p).keep, .int .u8 (p).ttl, .int .u8 (p).proto, .int .u32 (p).src, .int .u32 (p).dst, .slice A1 n1 c1, .slice A2 n2 c2] 26)).alloc (.cells #[.int .u8 0, .int .u32 0, .int .u32 0, .int .u16 0, .int .u16 0] 28)).alloc (.cells #[.int .u8 p.proto, .int .u32 p.src, .int .u32 p.dst, .int .u16 0, .int .u16 0] 28)) = W := ⟨_, rfl⟩
  have P1 : Blk w1 k #[.int .u8 (p).tos, .int .u16 (p).id, .bool (p).keep, .int .u8 (p).ttl, .int .u8 (p).proto, .int .u32 (p).src, .int .u32 (p).dst, .slice A1 n1 c1, .slice A2 n2 c2] 26 := by rw [← hw1]; exact (((blk_new _ _ _ k (by simp [hk])).alloc _).alloc _)
  have Z1 : Blk w1 (k + 1) #[.int .u8 0, .int .u32 0, .int .u32 0, .int .u16 0, .int .u16 0] 28 := by rw [← hw1]; exact ((blk_new _ _ _ (k + 1) (by simp [hk])).alloc _)
  have X1 : Blk w1 (k + 1 + 1) #[.int .u8 p.proto, .int .u32 p.src, .int .u32 p.dst, .int .u16 0, .int .u16 0] 28 := by rw [← hw1]; exact (blk_new _ _ _ (k + 1 + 1) (by simp [hk]))
  have R1 : Below w.heap.size w w1 := by rw [← hw1]; (repeat (first | with_reducible exact Below.refl _ _ | with_reducible refine below_drew ?_ | with_reducible refine below_drewN ?_ _ | with_reducible refine below_alloc ?_ (Nat.le_refl _) _ | with_reducible refine Below.setCell ?_ (by first | exact Nat.le_refl _ | (simp only []; omega)) _ | with_reducible assumption))
  have Pc1 := P1.cell
  have Zc1 := Z1.cell
  have Xc1 := X1.cell
  have Pl1 := P1.lt
  have Zl1 := Z1.lt
  have Xl1 := X1.lt
  have x1 := (k2).below R1
  have i3 : w1.setCell ⟨k + 1 + 1, 3, none⟩ (.int .u16 0) = w1 := X1.idle rfl
  have i4 : w1.setCell ⟨k + 1 + 1, 4, none⟩ (.int .u16 0) = w1 := X1.idle rfl
  by_cases h0 : E = 0
  case neg =>
    have h0b : (E != 0) = true := by simpa using h0
    have hz : tuP p q q E = zT := by unfold tuP; rw [if_pos h0]
    rw [if_neg (by simp [h0]), hz]
    clear h0 hz
    go_enter Try.func10, Try.ntmps10
    go_wp2_with (go_at_call 16; ((with_reducible refine (ht w1 x1).mono ?_); rintro e u2 ⟨⟨DA, dn, dc, rfl, -, hB2⟩⟩); (obtain ⟨w2, hw2⟩ : ∃ W, u2.alloc (.cells #[.int .u8 (s).ty, .int .u8 (s).code, .int .u32 (s).rest, .slice DA dn dc] 42) = W := ⟨_, rfl⟩); have V2 : Below u2.heap.size u2 w2 := (by rw [← hw2]; (repeat (first | with_reducible exact Below.refl _ _ | with_reducible refine below_drew ?_ | with_reducible refine below_drewN ?_ _ | with_reducible refine below_alloc ?_ (Nat.le_refl _) _ | with_reducible refine Below.setCell ?_ (by first | exact Nat.le_refl _ | (simp only []; omega)) _ | with_reducible assumption))); (obtain ⟨kS2, hkS2⟩ : ∃ k : Nat, u2.heap.size = k := ⟨_, rfl⟩); have S2 : Blk w2 kS2 #[.int .u8 (s).ty, .int .u8 (s).code, .int .u32 (s).rest, .slice DA dn dc] 42 := (by rw [← hw2]; exact blk_new u2 _ _ _ hkS2); have Sc2 := S2.cell; have T2 := below_then hB2 V2; have P2 := P1.below T2; have Pc2 := P2.cell; clear Pc1; have Z2 := Z1.below T2; have Zc2 := Z2.cell; clear Zc1; have X2 := X1.below T2; have Xc2 := X2.cell; clear Xc1; have x2 := x1.below T2; have R2 := below_then R1 T2)
    obtain ⟨wf, hwf, Sf⟩ := store5 Z2 (.int .u8 0) (.int .u32 0) (.int .u32 0) (.int .u16 0) (.int .u16 0)
    rw [hwf]
    have pf := Sf.blk.cell
    exact bodyPost_ret (v := .tuple #[(.agg #[.int .u8 (zT).proto, .int .u32 (zT).src, .int .u32 (zT).dst, .int .u16 (zT).sp, .int .u16 (zT).dp]), .int .i64 E]) (by simp [results, Try.results10, go_sem, pf, zT]) rfl ⟨⟨rfl, Sf.bel R2 (by omega)⟩⟩

  subst h0
  cases b
  · rw [if_pos ⟨rfl, rfl⟩]
    have hz : tuP p q q 12 = zT := by unfold tuP; rw [if_pos (by decide)]
    rw [hz]
    clear hz
    go_enter Try.func10, Try.ntmps10
    go_wp2_with (first
      | (go_at_call 16; ((with_reducible refine (ht w1 x1).mono ?_); rintro e u2 ⟨⟨DA, dn, dc, rfl, -, hB2⟩⟩); (obtain ⟨w2, hw2⟩ : ∃ W, u2.alloc (.cells #[.int .u8 (s).ty, .int .u8 (s).code, .int .u32 (s).rest, .slice DA dn dc] 42) = W := ⟨_, rfl⟩); have V2 : Below u2.heap.size u2 w2 := (by rw [← hw2]; (repeat (first | with_reducible exact Below.refl _ _ | with_reducible refine below_drew ?_ | with_reducible refine below_drewN ?_ _ | with_reducible refine below_alloc ?_ (Nat.le_refl _) _ | with_reducible refine Below.setCell ?_ (by first | exact Nat.le_refl _ | (simp only []; omega)) _ | with_reducible assumption))); (obtain ⟨kS2, hkS2⟩ : ∃ k : Nat, u2.heap.size = k := ⟨_, rfl⟩); have S2 : Blk w2 kS2 #[.int .u8 (s).ty, .int .u8 (s).code, .int .u32 (s).rest, .slice DA dn dc] 42 := (by rw [← hw2]; exact blk_new u2 _ _ _ hkS2); have Sc2 := S2.cell; have T2 := below_then hB2 V2; have P2 := P1.below T2; have Pc2 := P2.cell; clear Pc1; have Z2 := Z1.below T2; have Zc2 := Z2.cell; clear Zc1; have X2 := X1.below T2; have Xc2 := X2.cell; clear Xc1; have x2 := x1.below T2; have R2 := below_then R1 T2)
      | (go_at_call 25; ((with_reducible refine (hc DA dn dc w2).mono ?_); rintro e w3 ⟨rfl, hB3⟩); have P3 := P2.below hB3; have Pc3 := P3.cell; clear Pc2; have Z3 := Z2.below hB3; have Zc3 := Z3.cell; clear Zc2; have X3 := X2.below hB3; have Xc3 := X3.cell; clear Xc2; have S3 := S2.below hB3; have Sc3 := S3.cell; clear Sc2; have x3 := x2.below hB3; have R3 := below_then R2 hB3))
    obtain ⟨wf, hwf, Sf⟩ := store5 Z3 (.int .u8 0) (.int .u32 0) (.int .u32 0) (.int .u16 0) (.int .u16 0)
    rw [hwf]
    have pf := Sf.blk.cell
    exact bodyPost_ret (v := .tuple #[(.agg #[.int .u8 (zT).proto, .int .u32 (zT).src, .int .u32 (zT).dst, .int .u16 (zT).sp, .int .u16 (zT).dp]), .int .i64 12]) (by simp [results, Try.results10, go_sem, pf, zT]) rfl ⟨⟨rfl, Sf.bel R3 (by omega)⟩⟩

  · have hok : tuP p q q 0 = ⟨p.proto, p.src, p.dst, q, q⟩ := by unfold tuP; rw [if_neg (by simp)]
    rw [if_neg (by simp), hok]
    clear hok
    go_enter Try.func10, Try.ntmps10
    go_wp2_with (first
      | (go_at_call 16; ((with_reducible refine (ht w1 x1).mono ?_); rintro e u2 ⟨⟨DA, dn, dc, rfl, -, hB2⟩⟩); (obtain ⟨w2, hw2⟩ : ∃ W, u2.alloc (.cells #[.int .u8 (s).ty, .int .u8 (s).code, .int .u32 (s).rest, .slice DA dn dc] 42) = W := ⟨_, rfl⟩); have V2 : Below u2.heap.size u2 w2 := (by rw [← hw2]; (repeat (first | with_reducible exact Below.refl _ _ | with_reducible refine below_drew ?_ | with_reducible refine below_drewN ?_ _ | with_reducible refine below_alloc ?_ (Nat.le_refl _) _ | with_reducible refine Below.setCell ?_ (by first | exact Nat.le_refl _ | (simp only []; omega)) _ | with_reducible assumption))); (obtain ⟨kS2, hkS2⟩ : ∃ k : Nat, u2.heap.size = k := ⟨_, rfl⟩); have S2 : Blk w2 kS2 #[.int .u8 (s).ty, .int .u8 (s).code, .int .u32 (s).rest, .slice DA dn dc] 42 := (by rw [← hw2]; exact blk_new u2 _ _ _ hkS2); have Sc2 := S2.cell; have T2 := below_then hB2 V2; have P2 := P1.below T2; have Pc2 := P2.cell; clear Pc1; have Z2 := Z1.below T2; have Zc2 := Z2.cell; clear Zc1; have X2 := X1.below T2; have Xc2 := X2.cell; clear Xc1; have x2 := x1.below T2; have R2 := below_then R1 T2)
      | (go_at_call 25; ((with_reducible refine (hc DA dn dc w2).mono ?_); rintro e w3 ⟨rfl, hB3⟩); have P3 := P2.below hB3; have Pc3 := P3.cell; clear Pc2; have Z3 := Z2.below hB3; have Zc3 := Z3.cell; clear Zc2; have X3 := X2.below hB3; have Xc3 := X3.cell; clear Xc2; have S3 := S2.below hB3; have Sc3 := S3.cell; clear Sc2; have x3 := x2.below hB3; have R3 := below_then R2 hB3; (obtain ⟨w4, hw4, S4⟩ := store34 X3 (.int .u16 q) (.int .u16 q)); have X4 := S4.blk; have Xc4 := X4.cell; have Z4 := S4.other (by omega) Z3; have Zc4 := Z4.cell; have R4 := S4.bel R3 (by omega); have Xc5 := (X3.set_ 3 (.int .u16 q)).cell))
    obtain ⟨wf, hwf, Sf⟩ := store5 Z4 (.int .u8 p.proto) (.int .u32 p.src) (.int .u32 p.dst) (.int .u16 q) (.int .u16 q)
    rw [hwf]
    have pf := Sf.blk.cell
    exact bodyPost_ret (v := .tuple #[(.agg #[.int .u8 ((⟨p.proto, p.src, p.dst, q, q⟩ : Tup)).proto, .int .u32 ((⟨p.proto, p.src, p.dst, q, q⟩ : Tup)).src, .int .u32 ((⟨p.proto, p.src, p.dst, q, q⟩ : Tup)).dst, .int .u16 ((⟨p.proto, p.src, p.dst, q, q⟩ : Tup)).sp, .int .u16 ((⟨p.proto, p.src, p.dst, q, q⟩ : Tup)).dp]), .int .i64 0]) (by simp [results, Try.results10, go_sem, pf, zT]) rfl ⟨⟨rfl, Sf.bel R4 (by omega)⟩⟩

theorem rof_no (p : Pkt) (A1 : Option Addr) (n1 c1 : Nat) (A2 : Option Addr) (n2 c2 : Nat) (w : World) (h6 : p.proto ≠ 6) (h17 : p.proto ≠ 17) (h1 : p.proto ≠ 1) (h47 : p.proto ≠ 47) :
    Calls Try.prog 10 #[(.agg #[.int .u8 (p).tos, .int .u16 (p).id, .bool (p).keep, .int .u8 (p).ttl, .int .u8 (p).proto, .int .u32 (p).src, .int .u32 (p).dst, .slice A1 n1 c1, .slice A2 n2 c2])] w (TtPost w zT 12) := by
  have n6 : (p.proto == 6) = false := by simpa using h6
  have n17 : (p.proto == 17) = false := by simpa using h17
  have hn1 : (p.proto == 1) = false := by simpa using h1
  have n47 : (p.proto == 47) = false := by simpa using h47
  clear h6 h17 h1 h47
  obtain ⟨k, hk⟩ : ∃ k : Nat, w.heap.size = k := ⟨_, rfl⟩
  obtain ⟨w1, hw1⟩ : ∃ W, (((w.alloc (.cells #[.int .u8 (p).tos, .int .u16 (p).id, .bool (p).keep, .int .u8 (p).ttl, .int .u8 (p).proto, .int .u32 (p).src, .int .u32 (p).dst, .slice A1 n1 c1, .slice A2 n2 c2] 26)).alloc (.cells #[.int .u8 0, .int .u32 0, .int .u32 0, .int .u16 0, .int .u16 0] 28)).alloc (.cells #[.int .u8 p.proto, .int .u32 p.src, .int .u32 p.dst, .int .u16 0, .int .u16 0] 28)) = W := ⟨_, rfl⟩
  have P1 : Blk w1 k #[.int .u8 (p).tos, .int .u16 (p).id, .bool (p).keep, .int .u8 (p).ttl, .int .u8 (p).proto, .int .u32 (p).src, .int .u32 (p).dst, .slice A1 n1 c1, .slice A2 n2 c2] 26 := by rw [← hw1]; exact (((blk_new _ _ _ k (by simp [hk])).alloc _).alloc _)
  have Z1 : Blk w1 (k + 1) #[.int .u8 0, .int .u32 0, .int .u32 0, .int .u16 0, .int .u16 0] 28 := by rw [← hw1]; exact ((blk_new _ _ _ (k + 1) (by simp [hk])).alloc _)
  have X1 : Blk w1 (k + 1 + 1) #[.int .u8 p.proto, .int .u32 p.src, .int .u32 p.dst, .int .u16 0, .int .u16 0] 28 := by rw [← hw1]; exact (blk_new _ _ _ (k + 1 + 1) (by simp [hk]))
  have R1 : Below w.heap.size w w1 := by rw [← hw1]; (repeat (first | with_reducible exact Below.refl _ _ | with_reducible refine below_drew ?_ | with_reducible refine below_drewN ?_ _ | with_reducible refine below_alloc ?_ (Nat.le_refl _) _ | with_reducible refine Below.setCell ?_ (by first | exact Nat.le_refl _ | (simp only []; omega)) _ | with_reducible assumption))
  have Pc1 := P1.cell
  have Zc1 := Z1.cell
  have Xc1 := X1.cell
  have Pl1 := P1.lt
  have Zl1 := Z1.lt
  have Xl1 := X1.lt
  have i3 : w1.setCell ⟨k + 1 + 1, 3, none⟩ (.int .u16 0) = w1 := X1.idle rfl
  have i4 : w1.setCell ⟨k + 1 + 1, 4, none⟩ (.int .u16 0) = w1 := X1.idle rfl
  go_enter Try.func10, Try.ntmps10
  go_wp2_with fail
  obtain ⟨wf, hwf, Sf⟩ := store5 Z1 (.int .u8 0) (.int .u32 0) (.int .u32 0) (.int .u16 0) (.int .u16 0)
  rw [hwf]
  have pf := Sf.blk.cell
  exact bodyPost_ret (v := .tuple #[(.agg #[.int .u8 (zT).proto, .int .u32 (zT).src, .int .u32 (zT).dst, .int .u16 (zT).sp, .int .u16 (zT).dp]), .int .i64 12]) (by simp [results, Try.results10, go_sem, pf, zT]) rfl ⟨⟨rfl, Sf.bel R1 (by omega)⟩⟩
theorem rof_any (p : Pkt) (hp : p.Ok) (A1 : Option Addr) (n1 c1 : Nat) (A2 : Option Addr) (n2 c2 : Nat) (w : World) (k2 : Bs w A2 n2 c2 p.dat) (h7 : n2 ≤ 17592186044400) :
    Calls Try.prog 10 #[(.agg #[.int .u8 (p).tos, .int .u16 (p).id, .bool (p).keep, .int .u8 (p).ttl, .int .u8 (p).proto, .int .u32 (p).src, .int .u32 (p).dst, .slice A1 n1 c1, .slice A2 n2 c2])] w (TtPost w (ofT p) (ofE p)) := by
  unfold ofT ofE
  by_cases h6 : p.proto = 6
  · rw [if_pos h6, if_pos h6]; exact rof_tcp_ p A1 n1 c1 A2 n2 c2 w k2 h6 _ _ (fun W h => rtcp_any p hp A1 n1 c1 A2 n2 c2 W h h7)
  rw [if_neg h6, if_neg h6]
  by_cases h17 : p.proto = 17
  · rw [if_pos h17, if_pos h17]; exact rof_udp_ p A1 n1 c1 A2 n2 c2 w k2 h17 _ _ (fun W h => rudp_any p hp A1 n1 c1 A2 n2 c2 W h)
  rw [if_neg h17, if_neg h17]
  by_cases h1 : p.proto = 1
  · rw [if_pos h1, if_pos h1]; exact rof_icmp_ p A1 n1 c1 A2 n2 c2 w k2 h1 _ (icM_ok p) _ (fun W h => ricmp_any p A1 n1 c1 A2 n2 c2 W h (by omega))
  rw [if_neg h1, if_neg h1]
  by_cases h47 : p.proto = 47
  · rw [if_pos h47, if_pos h47]; exact rof_gre_ p A1 n1 c1 A2 n2 c2 w k2 h47 _ _ (fun W h => rgre_any p A1 n1 c1 A2 n2 c2 W h)
  rw [if_neg h47, if_neg h47]
  exact rof_no p A1 n1 c1 A2 n2 c2 w h6 h17 h1 h47
end Go.Proofs.Ytjhpmeagopdaiaa

namespace Go.Proofs.Ytjhpmeagopdaiaa
open Go.RowKit
set_option linter.unusedVariables false
set_option linter.unusedSimpArgs false
set_option maxHeartbeats 8000000
set_option maxRecDepth 100000

theorem alike_tcp (p q : Pkt) (A1 : Option Addr) (n1 c1 : Nat) (A2 : Option Addr) (n2 c2 : Nat) (B1 : Option Addr) (m1 d1 : Nat) (B2 : Option Addr) (m2 d2 : Nat) (w : World) (k2 : Bs w A2 n2 c2 p.dat) (j2 : Bs w B2 m2 d2 q.dat) (e1 : (p.src != q.src) = false) (e2 : (p.dst != q.dst) = false) (e3 : (p.proto != q.proto) = false) (hpr : p.proto = 6) (s : Seg) (hso : ∀ o ∈ s.opts, o.Ok)
    (ct : ∀ W, Bs W A2 n2 c2 p.dat → Calls Try.prog 23 #[(.agg #[.int .u8 (p).tos, .int .u16 (p).id, .bool (p).keep, .int .u8 (p).ttl, .int .u8 (p).proto, .int .u32 (p).src, .int .u32 (p).dst, .slice A1 n1 c1, .slice A2 n2 c2])] W (TcPost W s 0)) (cq : ∀ W, Bs W B2 m2 d2 q.dat → Calls Try.prog 23 #[(.agg #[.int .u8 (q).tos, .int .u16 (q).id, .bool (q).keep, .int .u8 (q).ttl, .int .u8 (q).proto, .int .u32 (q).src, .int .u32 (q).dst, .slice B1 m1 d1, .slice B2 m2 d2])] W (TcPost W s 0)) :
    Calls Try.prog 13 #[(.agg #[.int .u8 (p).tos, .int .u16 (p).id, .bool (p).keep, .int .u8 (p).ttl, .int .u8 (p).proto, .int .u32 (p).src, .int .u32 (p).dst, .slice A1 n1 c1, .slice A2 n2 c2]), (.agg #[.int .u8 (q).tos, .int .u16 (q).id, .bool (q).keep, .int .u8 (q).ttl, .int .u8 (q).proto, .int .u32 (q).src, .int .u32 (q).dst, .slice B1 m1 d1, .slice B2 m2 d2])] w fun e w' => e = .returned (.bool true) ∧ Below w.heap.size w w' := by
  have y6 : (p.proto == 6) = true := by rw [hpr]; rfl
  clear hpr
  have cs : ∀ OA on oc DA dn dc OB bn bc EB en ec W, Os W OA on oc s.opts → Bs W DA dn dc s.dat → Os W OB bn bc s.opts → Bs W EB en ec s.dat → Calls Try.prog 27 #[(.agg #[.int .u16 (s).src, .int .u16 (s).dst, .int .u32 (s).seq, .int .u32 (s).ack, .int .u8 (s).flags, .int .u16 (s).win, .int .u16 (s).urg, .slice OA on oc, .slice DA dn dc]), (.agg #[.int .u16 (s).src, .int .u16 (s).dst, .int .u32 (s).seq, .int .u32 (s).ack, .int .u8 (s).flags, .int .u16 (s).win, .int .u16 (s).urg, .slice OB bn bc, .slice EB en ec])] W fun e w' => e = .returned (.bool true) ∧ Below W.heap.size W w' := fun OA on oc DA dn dc OB bn bc EB en ec W a b c d => by
    have := rtsame_any s s OA on oc DA dn dc OB bn bc EB en ec W a b c d
    rw [sameS_self] at this
    exact this
  obtain ⟨k, hk⟩ : ∃ k : Nat, w.heap.size = k := ⟨_, rfl⟩
  obtain ⟨w1, hw1⟩ : ∃ W, ((w.alloc (.cells #[.int .u8 (p).tos, .int .u16 (p).id, .bool (p).keep, .int .u8 (p).ttl, .int .u8 (p).proto, .int .u32 (p).src, .int .u32 (p).dst, .slice A1 n1 c1, .slice A2 n2 c2] 26)).alloc (.cells #[.int .u8 (q).tos, .int .u16 (q).id, .bool (q).keep, .int .u8 (q).ttl, .int .u8 (q).proto, .int .u32 (q).src, .int .u32 (q).dst, .slice B1 m1 d1, .slice B2 m2 d2] 26)) = W := ⟨_, rfl⟩
  have P1 : Blk w1 k #[.int .u8 (p).tos, .int .u16 (p).id, .bool (p).keep, .int .u8 (p).ttl, .int .u8 (p).proto, .int .u32 (p).src, .int .u32 (p).dst, .slice A1 n1 c1, .slice A2 n2 c2] 26 := by rw [← hw1]; exact ((blk_new _ _ _ k (by simp [hk])).alloc _)
  have O1 : Blk w1 (k + 1) #[.int .u8 (q).tos, .int .u16 (q).id, .bool (q).keep, .int .u8 (q).ttl, .int .u8 (q).proto, .int .u32 (q).src, .int .u32 (q).dst, .slice B1 m1 d1, .slice B2 m2 d2] 26 := by rw [← hw1]; exact (blk_new _ _ _ (k + 1) (by simp [hk]))
  have R1 : Below w.heap.size w w1 := by rw [← hw1]; (repeat (first | with_reducible exact Below.refl _ _ | with_reducible refine below_drew ?_ | with_reducible refine below_drewN ?_ _ | with_reducible refine below_alloc ?_ (Nat.le_refl _) _ | with_reducible refine Below.setCell ?_ (by first | exact Nat.le_refl _ | (simp only []; omega)) _ | with_reducible assumption))
  have Pc1 := P1.cell
  have Oc1 := O1.cell
  have Pl1 := P1.lt
  have Ol1 := O1.lt
  have x1 := (k2).below R1
  have y1 := (j2).below R1
  go_enter Try.func13, Try.ntmps13
  go_wp2_with (first
    | (go_at_call 23; ((with_reducible refine (ct w1 x1).mono ?_); rintro e u2 ⟨⟨OA, on, oc, DA, dn, dc, rfl, oa, hon, oda, hB2⟩⟩); (obtain ⟨w2, hw2⟩ : ∃ W, u2.alloc (.cells #[.int .u16 (s).src, .int .u16 (s).dst, .int .u32 (s).seq, .int .u32 (s).ack, .int .u8 (s).flags, .int .u16 (s).win, .int .u16 (s).urg, .slice OA on oc, .slice DA dn dc] 55) = W := ⟨_, rfl⟩); have V2 : Below u2.heap.size u2 w2 := (by rw [← hw2]; (repeat (first | with_reducible exact Below.refl _ _ | with_reducible refine below_drew ?_ | with_reducible refine below_drewN ?_ _ | with_reducible refine below_alloc ?_ (Nat.le_refl _) _ | with_reducible refine Below.setCell ?_ (by first | exact Nat.le_refl _ | (simp only []; omega)) _ | with_reducible assumption))); (obtain ⟨kS2, hkS2⟩ : ∃ k : Nat, u2.heap.size = k := ⟨_, rfl⟩); have S2 : Blk w2 kS2 #[.int .u16 (s).src, .int .u16 (s).dst, .int .u32 (s).seq, .int .u32 (s).ack, .int .u8 (s).flags, .int .u16 (s).win, .int .u16 (s).urg, .slice OA on oc, .slice DA dn dc] 55 := (by rw [← hw2]; exact blk_new u2 _ _ _ hkS2); have Sc2 := S2.cell; have T2 := below_then hB2 V2; have da2 := (oda.bs).below V2; have P2 := P1.below T2; have Pc2 := P2.cell; clear Pc1; have O2 := O1.below T2; have Oc2 := O2.cell; clear Oc1; have x2 := x1.below T2; have y2 := y1.below T2; have R2 := below_then R1 T2; have KA2 := (oa.os (by omega) hso).below V2)
    | (go_at_call 23; ((with_reducible refine (cq w2 y2).mono ?_); rintro e u3 ⟨⟨OB, bn, bc, DB, en, ec, rfl, ob, hbn, odb, hB3⟩⟩); (obtain ⟨w3, hw3⟩ : ∃ W, u3.alloc (.cells #[.int .u16 (s).src, .int .u16 (s).dst, .int .u32 (s).seq, .int .u32 (s).ack, .int .u8 (s).flags, .int .u16 (s).win, .int .u16 (s).urg, .slice OB bn bc, .slice DB en ec] 55) = W := ⟨_, rfl⟩); have V3 : Below u3.heap.size u3 w3 := (by rw [← hw3]; (repeat (first | with_reducible exact Below.refl _ _ | with_reducible refine below_drew ?_ | with_reducible refine below_drewN ?_ _ | with_reducible refine below_alloc ?_ (Nat.le_refl _) _ | with_reducible refine Below.setCell ?_ (by first | exact Nat.le_refl _ | (simp only []; omega)) _ | with_reducible assumption))); (obtain ⟨kX3, hkX3⟩ : ∃ k : Nat, u3.heap.size = k := ⟨_, rfl⟩); have X3 : Blk w3 kX3 #[.int .u16 (s).src, .int .u16 (s).dst, .int .u32 (s).seq, .int .u32 (s).ack, .int .u8 (s).flags, .int .u16 (s).win, .int .u16 (s).urg, .slice OB bn bc, .slice DB en ec] 55 := (by rw [← hw3]; exact blk_new u3 _ _ _ hkX3); have Xc3 := X3.cell; have T3 := below_then hB3 V3; have db3 := (odb.bs).below V3; have P3 := P2.below T3; have Pc3 := P3.cell; clear Pc2; have O3 := O2.below T3; have Oc3 := O3.cell; clear Oc2; have S3 := S2.below T3; have Sc3 := S3.cell; clear Sc2; have x3 := x2.below T3; have y3 := y2.below T3; have da3 := da2.below T3; have R3 := below_then R2 T3; have KA3 := KA2.below T3; have KB3 := (ob.os (by omega) hso).below V3)
    | (go_at_call 27; ((with_reducible refine (cs OA on oc DA dn dc OB bn bc DB en ec w3 KA3 da3 KB3 db3).mono ?_); rintro e w4 ⟨rfl, hB4⟩); have P4 := P3.below hB4; have Pc4 := P4.cell; clear Pc3; have O4 := O3.below hB4; have Oc4 := O4.cell; clear Oc3; have S4 := S3.below hB4; have Sc4 := S4.cell; clear Sc3; have X4 := X3.below hB4; have Xc4 := X4.cell; clear Xc3; have x4 := x3.below hB4; have y4 := y3.below hB4; have da4 := da3.below hB4; have db4 := db3.below hB4; have R4 := below_then R3 hB4))
  go_ret
  exact ⟨rfl, R4⟩

theorem alike_udp (p q : Pkt) (A1 : Option Addr) (n1 c1 : Nat) (A2 : Option Addr) (n2 c2 : Nat) (B1 : Option Addr) (m1 d1 : Nat) (B2 : Option Addr) (m2 d2 : Nat) (w : World) (k2 : Bs w A2 n2 c2 p.dat) (j2 : Bs w B2 m2 d2 q.dat) (e1 : (p.src != q.src) = false) (e2 : (p.dst != q.dst) = false) (e3 : (p.proto != q.proto) = false) (hpr : p.proto = 17) (s : Dgm)
    (ct : ∀ W, Bs W A2 n2 c2 p.dat → Calls Try.prog 24 #[(.agg #[.int .u8 (p).tos, .int .u16 (p).id, .bool (p).keep, .int .u8 (p).ttl, .int .u8 (p).proto, .int .u32 (p).src, .int .u32 (p).dst, .slice A1 n1 c1, .slice A2 n2 c2])] W (DgPost W s 0)) (cq : ∀ W, Bs W B2 m2 d2 q.dat → Calls Try.prog 24 #[(.agg #[.int .u8 (q).tos, .int .u16 (q).id, .bool (q).keep, .int .u8 (q).ttl, .int .u8 (q).proto, .int .u32 (q).src, .int .u32 (q).dst, .slice B1 m1 d1, .slice B2 m2 d2])] W (DgPost W s 0)) :
    Calls Try.prog 13 #[(.agg #[.int .u8 (p).tos, .int .u16 (p).id, .bool (p).keep, .int .u8 (p).ttl, .int .u8 (p).proto, .int .u32 (p).src, .int .u32 (p).dst, .slice A1 n1 c1, .slice A2 n2 c2]), (.agg #[.int .u8 (q).tos, .int .u16 (q).id, .bool (q).keep, .int .u8 (q).ttl, .int .u8 (q).proto, .int .u32 (q).src, .int .u32 (q).dst, .slice B1 m1 d1, .slice B2 m2 d2])] w fun e w' => e = .returned (.bool true) ∧ Below w.heap.size w w' := by
  have hn6 : (p.proto == 6) = false := by rw [hpr]; rfl
  have y17 : (p.proto == 17) = true := by rw [hpr]; rfl
  clear hpr
  have cs : ∀ DA dn dc EB en ec W, Bs W DA dn dc s.dat → Bs W EB en ec s.dat → Calls Try.prog 28 #[(.agg #[.int .u16 (s).src, .int .u16 (s).dst, .bool (s).bare, .slice DA dn dc]), (.agg #[.int .u16 (s).src, .int .u16 (s).dst, .bool (s).bare, .slice EB en ec])] W fun e w' => e = .returned (.bool true) ∧ Below W.heap.size W w' := fun DA dn dc EB en ec W a b => by
    have := rdsame_any s s DA dn dc EB en ec W a b
    rw [sameD_self] at this
    exact this
  obtain ⟨k, hk⟩ : ∃ k : Nat, w.heap.size = k := ⟨_, rfl⟩
  obtain ⟨w1, hw1⟩ : ∃ W, ((w.alloc (.cells #[.int .u8 (p).tos, .int .u16 (p).id, .bool (p).keep, .int .u8 (p).ttl, .int .u8 (p).proto, .int .u32 (p).src, .int .u32 (p).dst, .slice A1 n1 c1, .slice A2 n2 c2] 26)).alloc (.cells #[.int .u8 (q).tos, .int .u16 (q).id, .bool (q).keep, .int .u8 (q).ttl, .int .u8 (q).proto, .int .u32 (q).src, .int .u32 (q).dst, .slice B1 m1 d1, .slice B2 m2 d2] 26)) = W := ⟨_, rfl⟩
  have P1 : Blk w1 k #[.int .u8 (p).tos, .int .u16 (p).id, .bool (p).keep, .int .u8 (p).ttl, .int .u8 (p).proto, .int .u32 (p).src, .int .u32 (p).dst, .slice A1 n1 c1, .slice A2 n2 c2] 26 := by rw [← hw1]; exact ((blk_new _ _ _ k (by simp [hk])).alloc _)
  have O1 : Blk w1 (k + 1) #[.int .u8 (q).tos, .int .u16 (q).id, .bool (q).keep, .int .u8 (q).ttl, .int .u8 (q).proto, .int .u32 (q).src, .int .u32 (q).dst, .slice B1 m1 d1, .slice B2 m2 d2] 26 := by rw [← hw1]; exact (blk_new _ _ _ (k + 1) (by simp [hk]))
  have R1 : Below w.heap.size w w1 := by rw [← hw1]; (repeat (first | with_reducible exact Below.refl _ _ | with_reducible refine below_drew ?_ | with_reducible refine below_drewN ?_ _ | with_reducible refine below_alloc ?_ (Nat.le_refl _) _ | with_reducible refine Below.setCell ?_ (by first | exact Nat.le_refl _ | (simp only []; omega)) _ | with_reducible assumption))
  have Pc1 := P1.cell
  have Oc1 := O1.cell
  have Pl1 := P1.lt
  have Ol1 := O1.lt
  have x1 := (k2).below R1
  have y1 := (j2).below R1
  go_enter Try.func13, Try.ntmps13
  go_wp2_with (first
    | (go_at_call 24; ((with_reducible refine (ct w1 x1).mono ?_); rintro e u2 ⟨⟨DA, dn, dc, rfl, oda, hB2⟩⟩); (obtain ⟨w2, hw2⟩ : ∃ W, u2.alloc (.cells #[.int .u16 (s).src, .int .u16 (s).dst, .bool (s).bare, .slice DA dn dc] 52) = W := ⟨_, rfl⟩); have V2 : Below u2.heap.size u2 w2 := (by rw [← hw2]; (repeat (first | with_reducible exact Below.refl _ _ | with_reducible refine below_drew ?_ | with_reducible refine below_drewN ?_ _ | with_reducible refine below_alloc ?_ (Nat.le_refl _) _ | with_reducible refine Below.setCell ?_ (by first | exact Nat.le_refl _ | (simp only []; omega)) _ | with_reducible assumption))); (obtain ⟨kS2, hkS2⟩ : ∃ k : Nat, u2.heap.size = k := ⟨_, rfl⟩); have S2 : Blk w2 kS2 #[.int .u16 (s).src, .int .u16 (s).dst, .bool (s).bare, .slice DA dn dc] 52 := (by rw [← hw2]; exact blk_new u2 _ _ _ hkS2); have Sc2 := S2.cell; have T2 := below_then hB2 V2; have da2 := (oda.bs).below V2; have P2 := P1.below T2; have Pc2 := P2.cell; clear Pc1; have O2 := O1.below T2; have Oc2 := O2.cell; clear Oc1; have x2 := x1.below T2; have y2 := y1.below T2; have R2 := below_then R1 T2)
    | (go_at_call 24; ((with_reducible refine (cq w2 y2).mono ?_); rintro e u3 ⟨⟨DB, en, ec, rfl, odb, hB3⟩⟩); (obtain ⟨w3, hw3⟩ : ∃ W, u3.alloc (.cells #[.int .u16 (s).src, .int .u16 (s).dst, .bool (s).bare, .slice DB en ec] 52) = W := ⟨_, rfl⟩); have V3 : Below u3.heap.size u3 w3 := (by rw [← hw3]; (repeat (first | with_reducible exact Below.refl _ _ | with_reducible refine below_drew ?_ | with_reducible refine below_drewN ?_ _ | with_reducible refine below_alloc ?_ (Nat.le_refl _) _ | with_reducible refine Below.setCell ?_ (by first | exact Nat.le_refl _ | (simp only []; omega)) _ | with_reducible assumption))); (obtain ⟨kX3, hkX3⟩ : ∃ k : Nat, u3.heap.size = k := ⟨_, rfl⟩); have X3 : Blk w3 kX3 #[.int .u16 (s).src, .int .u16 (s).dst, .bool (s).bare, .slice DB en ec] 52 := (by rw [← hw3]; exact blk_new u3 _ _ _ hkX3); have Xc3 := X3.cell; have T3 := below_then hB3 V3; have db3 := (odb.bs).below V3; have P3 := P2.below T3; have Pc3 := P3.cell; clear Pc2; have O3 := O2.below T3; have Oc3 := O3.cell; clear Oc2; have S3 := S2.below T3; have Sc3 := S3.cell; clear Sc2; have x3 := x2.below T3; have y3 := y2.below T3; have da3 := da2.below T3; have R3 := below_then R2 T3)
    | (go_at_call 28; ((with_reducible refine (cs DA dn dc DB en ec w3 da3 db3).mono ?_); rintro e w4 ⟨rfl, hB4⟩); have P4 := P3.below hB4; have Pc4 := P4.cell; clear Pc3; have O4 := O3.below hB4; have Oc4 := O4.cell; clear Oc3; have S4 := S3.below hB4; have Sc4 := S4.cell; clear Sc3; have X4 := X3.below hB4; have Xc4 := X4.cell; clear Xc3; have x4 := x3.below hB4; have y4 := y3.below hB4; have da4 := da3.below hB4; have db4 := db3.below hB4; have R4 := below_then R3 hB4))
  go_ret
  exact ⟨rfl, R4⟩

theorem alike_icmp (p q : Pkt) (A1 : Option Addr) (n1 c1 : Nat) (A2 : Option Addr) (n2 c2 : Nat) (B1 : Option Addr) (m1 d1 : Nat) (B2 : Option Addr) (m2 d2 : Nat) (w : World) (k2 : Bs w A2 n2 c2 p.dat) (j2 : Bs w B2 m2 d2 q.dat) (e1 : (p.src != q.src) = false) (e2 : (p.dst != q.dst) = false) (e3 : (p.proto != q.proto) = false) (hpr : p.proto = 1) (s : Msg)
    (ct : ∀ W, Bs W A2 n2 c2 p.dat → Calls Try.prog 16 #[(.agg #[.int .u8 (p).tos, .int .u16 (p).id, .bool (p).keep, .int .u8 (p).ttl, .int .u8 (p).proto, .int .u32 (p).src, .int .u32 (p).dst, .slice A1 n1 c1, .slice A2 n2 c2])] W (MsPost W s 0)) (cq : ∀ W, Bs W B2 m2 d2 q.dat → Calls Try.prog 16 #[(.agg #[.int .u8 (q).tos, .int .u16 (q).id, .bool (q).keep, .int .u8 (q).ttl, .int .u8 (q).proto, .int .u32 (q).src, .int .u32 (q).dst, .slice B1 m1 d1, .slice B2 m2 d2])] W (MsPost W s 0)) :
    Calls Try.prog 13 #[(.agg #[.int .u8 (p).tos, .int .u16 (p).id, .bool (p).keep, .int .u8 (p).ttl, .int .u8 (p).proto, .int .u32 (p).src, .int .u32 (p).dst, .slice A1 n1 c1, .slice A2 n2 c2]), (.agg #[.int .u8 (q).tos, .int .u16 (q).id, .bool (q).keep, .int .u8 (q).ttl, .int .u8 (q).proto, .int .u32 (q).src, .int .u32 (q).dst, .slice B1 m1 d1, .slice B2 m2 d2])] w fun e w' => e = .returned (.bool true) ∧ Below w.heap.size w w' := by
  have hn6 : (p.proto == 6) = false := by rw [hpr]; rfl
  have hn17 : (p.proto == 17) = false := by rw [hpr]; rfl
  have y1 : (p.proto == 1) = true := by rw [hpr]; rfl
  clear hpr
  have cs : ∀ DA dn dc EB en ec W, Bs W DA dn dc s.dat → Bs W EB en ec s.dat → Calls Try.prog 29 #[(.agg #[.int .u8 (s).ty, .int .u8 (s).code, .int .u32 (s).rest, .slice DA dn dc]), (.agg #[.int .u8 (s).ty, .int .u8 (s).code, .int .u32 (s).rest, .slice EB en ec])] W fun e w' => e = .returned (.bool true) ∧ Below W.heap.size W w' := fun DA dn dc EB en ec W a b => by
    have := rmsame_any s s DA dn dc EB en ec W a b
    rw [sameM_self] at this
    exact this
  obtain ⟨k, hk⟩ : ∃ k : Nat, w.heap.size = k := ⟨_, rfl⟩
  obtain ⟨w1, hw1⟩ : ∃ W, ((w.alloc (.cells #[.int .u8 (p).tos, .int .u16 (p).id, .bool (p).keep, .int .u8 (p).ttl, .int .u8 (p).proto, .int .u32 (p).src, .int .u32 (p).dst, .slice A1 n1 c1, .slice A2 n2 c2] 26)).alloc (.cells #[.int .u8 (q).tos, .int .u16 (q).id, .bool (q).keep, .int .u8 (q).ttl, .int .u8 (q).proto, .int .u32 (q).src, .int .u32 (q).dst, .slice B1 m1 d1, .slice B2 m2 d2] 26)) = W := ⟨_, rfl⟩
  have P1 : Blk w1 k #[.int .u8 (p).tos, .int .u16 (p).id, .bool (p).keep, .int .u8 (p).ttl, .int .u8 (p).proto, .int .u32 (p).src, .int .u32 (p).dst, .slice A1 n1 c1, .slice A2 n2 c2] 26 := by rw [← hw1]; exact ((blk_new _ _ _ k (by simp [hk])).alloc _)
  have O1 : Blk w1 (k + 1) #[.int .u8 (q).tos, .int .u16 (q).id, .bool (q).keep, .int .u8 (q).ttl, .int .u8 (q).proto, .int .u32 (q).src, .int .u32 (q).dst, .slice B1 m1 d1, .slice B2 m2 d2] 26 := by rw [← hw1]; exact (blk_new _ _ _ (k + 1) (by simp [hk]))
  have R1 : Below w.heap.size w w1 := by rw [← hw1]; (repeat (first | with_reducible exact Below.refl _ _ | with_reducible refine below_drew ?_ | with_reducible refine below_drewN ?_ _ | with_reducible refine below_alloc ?_ (Nat.le_refl _) _ | with_reducible refine Below.setCell ?_ (by first | exact Nat.le_refl _ | (simp only []; omega)) _ | with_reducible assumption))
  have Pc1 := P1.cell
  have Oc1 := O1.cell
  have Pl1 := P1.lt
  have Ol1 := O1.lt
  have x1 := (k2).below R1
  have y1 := (j2).below R1
  go_enter Try.func13, Try.ntmps13
  go_wp2_with (first
    | (go_at_call 16; ((with_reducible refine (ct w1 x1).mono ?_); rintro e u2 ⟨⟨DA, dn, dc, rfl, oda, hB2⟩⟩); (obtain ⟨w2, hw2⟩ : ∃ W, u2.alloc (.cells #[.int .u8 (s).ty, .int .u8 (s).code, .int .u32 (s).rest, .slice DA dn dc] 42) = W := ⟨_, rfl⟩); have V2 : Below u2.heap.size u2 w2 := (by rw [← hw2]; (repeat (first | with_reducible exact Below.refl _ _ | with_reducible refine below_drew ?_ | with_reducible refine below_drewN ?_ _ | with_reducible refine below_alloc ?_ (Nat.le_refl _) _ | with_reducible refine Below.setCell ?_ (by first | exact Nat.le_refl _ | (simp only []; omega)) _ | with_reducible assumption))); (obtain ⟨kS2, hkS2⟩ : ∃ k : Nat, u2.heap.size = k := ⟨_, rfl⟩); have S2 : Blk w2 kS2 #[.int .u8 (s).ty, .int .u8 (s).code, .int .u32 (s).rest, .slice DA dn dc] 42 := (by rw [← hw2]; exact blk_new u2 _ _ _ hkS2); have Sc2 := S2.cell; have T2 := below_then hB2 V2; have da2 := (oda.bs).below V2; have P2 := P1.below T2; have Pc2 := P2.cell; clear Pc1; have O2 := O1.below T2; have Oc2 := O2.cell; clear Oc1; have x2 := x1.below T2; have y2 := y1.below T2; have R2 := below_then R1 T2)
    | (go_at_call 16; ((with_reducible refine (cq w2 y2).mono ?_); rintro e u3 ⟨⟨DB, en, ec, rfl, odb, hB3⟩⟩); (obtain ⟨w3, hw3⟩ : ∃ W, u3.alloc (.cells #[.int .u8 (s).ty, .int .u8 (s).code, .int .u32 (s).rest, .slice DB en ec] 42) = W := ⟨_, rfl⟩); have V3 : Below u3.heap.size u3 w3 := (by rw [← hw3]; (repeat (first | with_reducible exact Below.refl _ _ | with_reducible refine below_drew ?_ | with_reducible refine below_drewN ?_ _ | with_reducible refine below_alloc ?_ (Nat.le_refl _) _ | with_reducible refine Below.setCell ?_ (by first | exact Nat.le_refl _ | (simp only []; omega)) _ | with_reducible assumption))); (obtain ⟨kX3, hkX3⟩ : ∃ k : Nat, u3.heap.size = k := ⟨_, rfl⟩); have X3 : Blk w3 kX3 #[.int .u8 (s).ty, .int .u8 (s).code, .int .u32 (s).rest, .slice DB en ec] 42 := (by rw [← hw3]; exact blk_new u3 _ _ _ hkX3); have Xc3 := X3.cell; have T3 := below_then hB3 V3; have db3 := (odb.bs).below V3; have P3 := P2.below T3; have Pc3 := P3.cell; clear Pc2; have O3 := O2.below T3; have Oc3 := O3.cell; clear Oc2; have S3 := S2.below T3; have Sc3 := S3.cell; clear Sc2; have x3 := x2.below T3; have y3 := y2.below T3; have da3 := da2.below T3; have R3 := below_then R2 T3)
    | (go_at_call 29; ((with_reducible refine (cs DA dn dc DB en ec w3 da3 db3).mono ?_); rintro e w4 ⟨rfl, hB4⟩); have P4 := P3.below hB4; have Pc4 := P4.cell; clear Pc3; have O4 := O3.below hB4; have Oc4 := O4.cell; clear Oc3; have S4 := S3.below hB4; have Sc4 := S4.cell; clear Sc3; have X4 := X3.below hB4; have Xc4 := X4.cell; clear Xc3; have x4 := x3.below hB4; have y4 := y3.below hB4; have da4 := da3.below hB4; have db4 := db3.below hB4; have R4 := below_then R3 hB4))
  go_ret
  exact ⟨rfl, R4⟩

theorem alike_gre (p q : Pkt) (A1 : Option Addr) (n1 c1 : Nat) (A2 : Option Addr) (n2 c2 : Nat) (B1 : Option Addr) (m1 d1 : Nat) (B2 : Option Addr) (m2 d2 : Nat) (w : World) (k2 : Bs w A2 n2 c2 p.dat) (j2 : Bs w B2 m2 d2 q.dat) (e1 : (p.src != q.src) = false) (e2 : (p.dst != q.dst) = false) (e3 : (p.proto != q.proto) = false) (hpr : p.proto = 47) (s : Frm)
    (ct : ∀ W, Bs W A2 n2 c2 p.dat → Calls Try.prog 26 #[(.agg #[.int .u8 (p).tos, .int .u16 (p).id, .bool (p).keep, .int .u8 (p).ttl, .int .u8 (p).proto, .int .u32 (p).src, .int .u32 (p).dst, .slice A1 n1 c1, .slice A2 n2 c2])] W (FrPost W s 0)) (cq : ∀ W, Bs W B2 m2 d2 q.dat → Calls Try.prog 26 #[(.agg #[.int .u8 (q).tos, .int .u16 (q).id, .bool (q).keep, .int .u8 (q).ttl, .int .u8 (q).proto, .int .u32 (q).src, .int .u32 (q).dst, .slice B1 m1 d1, .slice B2 m2 d2])] W (FrPost W s 0)) :
    Calls Try.prog 13 #[(.agg #[.int .u8 (p).tos, .int .u16 (p).id, .bool (p).keep, .int .u8 (p).ttl, .int .u8 (p).proto, .int .u32 (p).src, .int .u32 (p).dst, .slice A1 n1 c1, .slice A2 n2 c2]), (.agg #[.int .u8 (q).tos, .int .u16 (q).id, .bool (q).keep, .int .u8 (q).ttl, .int .u8 (q).proto, .int .u32 (q).src, .int .u32 (q).dst, .slice B1 m1 d1, .slice B2 m2 d2])] w fun e w' => e = .returned (.bool true) ∧ Below w.heap.size w w' := by
  have hn6 : (p.proto == 6) = false := by rw [hpr]; rfl
  have hn17 : (p.proto == 17) = false := by rw [hpr]; rfl
  have hn1 : (p.proto == 1) = false := by rw [hpr]; rfl
  clear hpr
  have cs : ∀ DA dn dc EB en ec W, Bs W DA dn dc s.dat → Bs W EB en ec s.dat → Calls Try.prog 30 #[(.agg #[.int .u16 (s).call, .bool (s).hs, .bool (s).ha, .int .u32 (s).seq, .int .u32 (s).ack, .slice DA dn dc]), (.agg #[.int .u16 (s).call, .bool (s).hs, .bool (s).ha, .int .u32 (s).seq, .int .u32 (s).ack, .slice EB en ec])] W fun e w' => e = .returned (.bool true) ∧ Below W.heap.size W w' := fun DA dn dc EB en ec W a b => by
    have := rgsame_any s s DA dn dc EB en ec W a b
    rw [sameF_self] at this
    exact this
  obtain ⟨k, hk⟩ : ∃ k : Nat, w.heap.size = k := ⟨_, rfl⟩
  obtain ⟨w1, hw1⟩ : ∃ W, ((w.alloc (.cells #[.int .u8 (p).tos, .int .u16 (p).id, .bool (p).keep, .int .u8 (p).ttl, .int .u8 (p).proto, .int .u32 (p).src, .int .u32 (p).dst, .slice A1 n1 c1, .slice A2 n2 c2] 26)).alloc (.cells #[.int .u8 (q).tos, .int .u16 (q).id, .bool (q).keep, .int .u8 (q).ttl, .int .u8 (q).proto, .int .u32 (q).src, .int .u32 (q).dst, .slice B1 m1 d1, .slice B2 m2 d2] 26)) = W := ⟨_, rfl⟩
  have P1 : Blk w1 k #[.int .u8 (p).tos, .int .u16 (p).id, .bool (p).keep, .int .u8 (p).ttl, .int .u8 (p).proto, .int .u32 (p).src, .int .u32 (p).dst, .slice A1 n1 c1, .slice A2 n2 c2] 26 := by rw [← hw1]; exact ((blk_new _ _ _ k (by simp [hk])).alloc _)
  have O1 : Blk w1 (k + 1) #[.int .u8 (q).tos, .int .u16 (q).id, .bool (q).keep, .int .u8 (q).ttl, .int .u8 (q).proto, .int .u32 (q).src, .int .u32 (q).dst, .slice B1 m1 d1, .slice B2 m2 d2] 26 := by rw [← hw1]; exact (blk_new _ _ _ (k + 1) (by simp [hk]))
  have R1 : Below w.heap.size w w1 := by rw [← hw1]; (repeat (first | with_reducible exact Below.refl _ _ | with_reducible refine below_drew ?_ | with_reducible refine below_drewN ?_ _ | with_reducible refine below_alloc ?_ (Nat.le_refl _) _ | with_reducible refine Below.setCell ?_ (by first | exact Nat.le_refl _ | (simp only []; omega)) _ | with_reducible assumption))
  have Pc1 := P1.cell
  have Oc1 := O1.cell
  have Pl1 := P1.lt
  have Ol1 := O1.lt
  have x1 := (k2).below R1
  have y1 := (j2).below R1
  go_enter Try.func13, Try.ntmps13
  go_wp2_with (first
    | (go_at_call 26; ((with_reducible refine (ct w1 x1).mono ?_); rintro e u2 ⟨⟨DA, dn, dc, rfl, oda, hB2⟩⟩); (obtain ⟨w2, hw2⟩ : ∃ W, u2.alloc (.cells #[.int .u16 (s).call, .bool (s).hs, .bool (s).ha, .int .u32 (s).seq, .int .u32 (s).ack, .slice DA dn dc] 63) = W := ⟨_, rfl⟩); have V2 : Below u2.heap.size u2 w2 := (by rw [← hw2]; (repeat (first | with_reducible exact Below.refl _ _ | with_reducible refine below_drew ?_ | with_reducible refine below_drewN ?_ _ | with_reducible refine below_alloc ?_ (Nat.le_refl _) _ | with_reducible refine Below.setCell ?_ (by first | exact Nat.le_refl _ | (simp only []; omega)) _ | with_reducible assumption))); (obtain ⟨kS2, hkS2⟩ : ∃ k : Nat, u2.heap.size = k := ⟨_, rfl⟩); have S2 : Blk w2 kS2 #[.int .u16 (s).call, .bool (s).hs, .bool (s).ha, .int .u32 (s).seq, .int .u32 (s).ack, .slice DA dn dc] 63 := (by rw [← hw2]; exact blk_new u2 _ _ _ hkS2); have Sc2 := S2.cell; have T2 := below_then hB2 V2; have da2 := (oda.bs).below V2; have P2 := P1.below T2; have Pc2 := P2.cell; clear Pc1; have O2 := O1.below T2; have Oc2 := O2.cell; clear Oc1; have x2 := x1.below T2; have y2 := y1.below T2; have R2 := below_then R1 T2)
    | (go_at_call 26; ((with_reducible refine (cq w2 y2).mono ?_); rintro e u3 ⟨⟨DB, en, ec, rfl, odb, hB3⟩⟩); (obtain ⟨w3, hw3⟩ : ∃ W, u3.alloc (.cells #[.int .u16 (s).call, .bool (s).hs, .bool (s).ha, .int .u32 (s).seq, .int .u32 (s).ack, .slice DB en ec] 63) = W := ⟨_, rfl⟩); have V3 : Below u3.heap.size u3 w3 := (by rw [← hw3]; (repeat (first | with_reducible exact Below.refl _ _ | with_reducible refine below_drew ?_ | with_reducible refine below_drewN ?_ _ | with_reducible refine below_alloc ?_ (Nat.le_refl _) _ | with_reducible refine Below.setCell ?_ (by first | exact Nat.le_refl _ | (simp only []; omega)) _ | with_reducible assumption))); (obtain ⟨kX3, hkX3⟩ : ∃ k : Nat, u3.heap.size = k := ⟨_, rfl⟩); have X3 : Blk w3 kX3 #[.int .u16 (s).call, .bool (s).hs, .bool (s).ha, .int .u32 (s).seq, .int .u32 (s).ack, .slice DB en ec] 63 := (by rw [← hw3]; exact blk_new u3 _ _ _ hkX3); have Xc3 := X3.cell; have T3 := below_then hB3 V3; have db3 := (odb.bs).below V3; have P3 := P2.below T3; have Pc3 := P3.cell; clear Pc2; have O3 := O2.below T3; have Oc3 := O3.cell; clear Oc2; have S3 := S2.below T3; have Sc3 := S3.cell; clear Sc2; have x3 := x2.below T3; have y3 := y2.below T3; have da3 := da2.below T3; have R3 := below_then R2 T3)
    | (go_at_call 30; ((with_reducible refine (cs DA dn dc DB en ec w3 da3 db3).mono ?_); rintro e w4 ⟨rfl, hB4⟩); have P4 := P3.below hB4; have Pc4 := P4.cell; clear Pc3; have O4 := O3.below hB4; have Oc4 := O4.cell; clear Oc3; have S4 := S3.below hB4; have Sc4 := S4.cell; clear Sc3; have X4 := X3.below hB4; have Xc4 := X4.cell; clear Xc3; have x4 := x3.below hB4; have y4 := y3.below hB4; have da4 := da3.below hB4; have db4 := db3.below hB4; have R4 := below_then R3 hB4))
  go_ret
  exact ⟨rfl, R4⟩

theorem alike_any (p q : Pkt) (hp : p.Ok) (hq : q.Ok) (A1 : Option Addr) (n1 c1 : Nat) (A2 : Option Addr) (n2 c2 : Nat) (B1 : Option Addr) (m1 d1 : Nat) (B2 : Option Addr) (m2 d2 : Nat) (w : World) (k2 : Bs w A2 n2 c2 p.dat) (j2 : Bs w B2 m2 d2 q.dat) (z2 : n2 ≤ 17592186044400) (y2 : m2 ≤ 17592186044400) (h : alikeB p q = true) (hof : ofE p = 0) :
    Calls Try.prog 13 #[(.agg #[.int .u8 (p).tos, .int .u16 (p).id, .bool (p).keep, .int .u8 (p).ttl, .int .u8 (p).proto, .int .u32 (p).src, .int .u32 (p).dst, .slice A1 n1 c1, .slice A2 n2 c2]), (.agg #[.int .u8 (q).tos, .int .u16 (q).id, .bool (q).keep, .int .u8 (q).ttl, .int .u8 (q).proto, .int .u32 (q).src, .int .u32 (q).dst, .slice B1 m1 d1, .slice B2 m2 d2])] w fun e w' => e = .returned (.bool true) ∧ Below w.heap.size w w' := by
  unfold alikeB at h
  simp only [Bool.and_eq_true, beq_iff_eq] at h
  obtain ⟨⟨⟨h1, h2⟩, h3⟩, h4⟩ := h
  have e1 : (p.src != q.src) = false := by simp [h1]
  have e2 : (p.dst != q.dst) = false := by simp [h2]
  have e3 : (p.proto != q.proto) = false := by simp [h3]
  rcases own_ways hof with ⟨c, -⟩ | ⟨c, -⟩ | ⟨c, -⟩ | ⟨c, -⟩
  · rw [if_pos c] at h4
    simp only [Bool.and_eq_true, beq_iff_eq] at h4
    obtain ⟨⟨a, b⟩, e⟩ := h4
    rw [sameS_iff] at e
    have ct := fun W k => rtcp_any p hp A1 n1 c1 A2 n2 c2 W k z2
    have cq := fun W k => rtcp_any q hq B1 m1 d1 B2 m2 d2 W k y2
    rw [a] at ct
    rw [b, ← e] at cq
    exact alike_tcp p q A1 n1 c1 A2 n2 c2 B1 m1 d1 B2 m2 d2 w k2 j2 e1 e2 e3 c _ (tcS_ok p).opts ct cq
  · rw [if_neg (by omega), if_pos c] at h4
    simp only [Bool.and_eq_true, beq_iff_eq] at h4
    obtain ⟨⟨a, b⟩, e⟩ := h4
    rw [sameD_iff] at e
    have ct := fun W k => rudp_any p hp A1 n1 c1 A2 n2 c2 W k
    have cq := fun W k => rudp_any q hq B1 m1 d1 B2 m2 d2 W k
    rw [a] at ct
    rw [b, ← e] at cq
    exact alike_udp p q A1 n1 c1 A2 n2 c2 B1 m1 d1 B2 m2 d2 w k2 j2 e1 e2 e3 c _ ct cq
  · rw [if_neg (by omega), if_neg (by omega), if_pos c] at h4
    simp only [Bool.and_eq_true, beq_iff_eq] at h4
    obtain ⟨⟨a, b⟩, e⟩ := h4
    have e : icM p = icM q := by
      unfold sameM at e
      simp only [Bool.and_eq_true, beq_iff_eq] at e
      obtain ⟨⟨⟨x1, x2⟩, x3⟩, x4⟩ := e
      cases hx : icM p; cases hy : icM q
      rw [hx, hy] at x1 x2 x3 x4
      simp only at x1 x2 x3 x4
      subst x1 x2 x3 x4
      rfl
    have ct := fun W k => ricmp_any p A1 n1 c1 A2 n2 c2 W k (by omega)
    have cq := fun W k => ricmp_any q B1 m1 d1 B2 m2 d2 W k (by omega)
    rw [a] at ct
    rw [b, ← e] at cq
    exact alike_icmp p q A1 n1 c1 A2 n2 c2 B1 m1 d1 B2 m2 d2 w k2 j2 e1 e2 e3 c _ ct cq
  · rw [if_neg (by omega), if_neg (by omega), if_neg (by omega)] at h4
    simp only [Bool.and_eq_true, beq_iff_eq] at h4
    obtain ⟨⟨a, b⟩, e⟩ := h4
    rw [sameF_iff] at e
    have ct := fun W k => rgre_any p A1 n1 c1 A2 n2 c2 W k
    have cq := fun W k => rgre_any q B1 m1 d1 B2 m2 d2 W k
    rw [a] at ct
    rw [b, ← e] at cq
    exact alike_gre p q A1 n1 c1 A2 n2 c2 B1 m1 d1 B2 m2 d2 w k2 j2 e1 e2 e3 c _ ct cq
theorem told_any (t : Tup) (w : World) : Calls Try.prog 11 #[(.agg #[.int .u8 (t).proto, .int .u32 (t).src, .int .u32 (t).dst, .int .u16 (t).sp, .int .u16 (t).dp])] w fun e w' => e = .returned (.agg #[.int .u8 (toldT t).proto, .int .u32 (toldT t).src, .int .u32 (toldT t).dst, .int .u16 (toldT t).sp, .int .u16 (toldT t).dp]) ∧ Below w.heap.size w w' := by
  obtain ⟨p, a, b, c, d⟩ := t
  by_cases h1 : p = 1
  · subst h1
    go_enter Try.func11, Try.ntmps11
    go_wp2_with fail
    exact bodyPost_ret (v := (.agg #[.int .u8 (toldT (⟨1, a, b, c, d⟩ : Tup)).proto, .int .u32 (toldT (⟨1, a, b, c, d⟩ : Tup)).src, .int .u32 (toldT (⟨1, a, b, c, d⟩ : Tup)).dst, .int .u16 (toldT (⟨1, a, b, c, d⟩ : Tup)).sp, .int .u16 (toldT (⟨1, a, b, c, d⟩ : Tup)).dp])) (by simp [results, Try.results11, go_sem, toldT]) rfl ⟨rfl, by (repeat (first | with_reducible exact Below.refl _ _ | with_reducible refine below_drew ?_ | with_reducible refine below_drewN ?_ _ | with_reducible refine below_alloc ?_ (Nat.le_refl _) _ | with_reducible refine Below.setCell ?_ (by first | exact Nat.le_refl _ | (simp only []; omega)) _ | with_reducible assumption))⟩
  by_cases h47 : p = 47
  · subst h47
    go_enter Try.func11, Try.ntmps11
    go_wp2_with fail
    exact bodyPost_ret (v := (.agg #[.int .u8 (toldT (⟨47, a, b, c, d⟩ : Tup)).proto, .int .u32 (toldT (⟨47, a, b, c, d⟩ : Tup)).src, .int .u32 (toldT (⟨47, a, b, c, d⟩ : Tup)).dst, .int .u16 (toldT (⟨47, a, b, c, d⟩ : Tup)).sp, .int .u16 (toldT (⟨47, a, b, c, d⟩ : Tup)).dp])) (by simp [results, Try.results11, go_sem, toldT]) rfl ⟨rfl, by (repeat (first | with_reducible exact Below.refl _ _ | with_reducible refine below_drew ?_ | with_reducible refine below_drewN ?_ _ | with_reducible refine below_alloc ?_ (Nat.le_refl _) _ | with_reducible refine Below.setCell ?_ (by first | exact Nat.le_refl _ | (simp only []; omega)) _ | with_reducible assumption))⟩
  have e1 : (p == 1) = false := by simpa using h1
  have e47 : (p == 47) = false := by simpa using h47
  have hk : toldT ⟨p, a, b, c, d⟩ = ⟨p, a, b, c, d⟩ := by unfold toldT; rw [if_neg h1, if_neg h47]
  rw [hk]
  clear h1 h47 hk
  go_enter Try.func11, Try.ntmps11
  go_wp2_with fail
  exact bodyPost_ret (v := (.agg #[.int .u8 ((⟨p, a, b, c, d⟩ : Tup)).proto, .int .u32 ((⟨p, a, b, c, d⟩ : Tup)).src, .int .u32 ((⟨p, a, b, c, d⟩ : Tup)).dst, .int .u16 ((⟨p, a, b, c, d⟩ : Tup)).sp, .int .u16 ((⟨p, a, b, c, d⟩ : Tup)).dp])) (by simp [results, Try.results11, go_sem]) rfl ⟨rfl, by (repeat (first | with_reducible exact Below.refl _ _ | with_reducible refine below_drew ?_ | with_reducible refine below_drewN ?_ _ | with_reducible refine below_alloc ?_ (Nat.le_refl _) _ | with_reducible refine Below.setCell ?_ (by first | exact Nat.le_refl _ | (simp only []; omega)) _ | with_reducible assumption))⟩
def q10 : Pkt := ⟨0, 0, false, 0, 0, 1, 2, [], []⟩
def d10 : Dgm := ⟨3, 4, false, []⟩
def p10 : Pkt := ⟨0, 0, false, 0, 17, 1, 2, [], dS q10 d10⟩
def t10 : Tup := ⟨17, 5, 2, 6, 4⟩
theorem q10_ok : q10.Ok := ⟨by decide, by decide, by decide, by decide, by decide, by decide⟩
theorem p10_ok : p10.Ok := ⟨by decide, by decide, by decide, by decide, by decide, by decide⟩
theorem t10_ok : t10.Ok := ⟨by decide, by decide, by decide, by decide, by decide⟩
theorem live10_any (w : World) : Calls Try.prog 8 #[] w fun e w' => e = .returned (.bool true) ∧ Below w.heap.size w w' := by
  have cu : ∀ W, Calls Try.prog 22 #[.agg #[.int .u8 0, .int .u16 0, .bool false, .int .u8 0, .int .u8 0, .int .u32 1, .int .u32 2, .slice none 0 0, .slice none 0 0], .agg #[.int .u16 3, .int .u16 4, .bool false, .slice none 0 0]] W fun e w' => ∃ B1 m1 d1 B2 d2, e = .returned (.tuple #[.agg #[.int .u8 0, .int .u16 0, .bool false, .int .u8 0, .int .u8 17, .int .u32 1, .int .u32 2, .slice B1 m1 d1, .slice B2 8 d2], .int .i64 0]) ∧ Bs w' B1 m1 d1 [] ∧ Bs w' B2 8 d2 p10.dat ∧ Below W.heap.size W w' := fun W => by
    have hh := rdbuild_any q10 q10_ok none 0 0 none 0 0 d10 ⟨by decide, by decide⟩ none 0 0 W (Bs.none_ _) (Bs.none_ _)
    refine hh.mono fun e w' hq => ?_
    obtain ⟨B1, m1, d1, B2, m2, d2, rfl, h1, h2, h3⟩ := hq.out
    have e1 : dbP q10 d10 = p10 := by kernel_rfl
    have e2 : dbE q10 d10 = 0 := by kernel_rfl
    rw [e1] at h1 h2 ⊢
    rw [e2]
    have h5 : m2 = 8 := by have h4 := h2.len; rw [show p10.dat = dS q10 d10 from rfl, dS_len] at h4; simpa [d10] using h4.symm
    subst h5
    exact ⟨B1, m1, d1, B2, d2, rfl, h1.bs, h2.bs, h3⟩
  have hE : rwE p10 t10 = 0 := by kernel_rfl
  have hb := rw_back p10_ok t10_ok hE
  obtain ⟨d, hf, hdl⟩ := hb.form
  have hdl' : d.length ≤ 8 := by rw [show p10.dat.length = 8 from by rw [show p10.dat = dS q10 d10 from rfl, dS_len]; rfl] at hdl; exact hdl
  have hro : (rwP p10 t10).Ok := by rw [hf]; exact ⟨p10_ok.1, p10_ok.2, p10_ok.3, p10_ok.4, t10_ok.src, t10_ok.dst⟩
  have cr : ∀ W B1 m1 d1 B2 d2, Bs W B1 m1 d1 [] → Bs W B2 8 d2 p10.dat → Calls Try.prog 7 #[.agg #[.int .u8 0, .int .u16 0, .bool false, .int .u8 0, .int .u8 17, .int .u32 1, .int .u32 2, .slice B1 m1 d1, .slice B2 8 d2], .agg #[.int .u8 17, .int .u32 5, .int .u32 2, .int .u16 6, .int .u16 4]] W fun e w' => ∃ C1 e1 f1 C2 e2 f2, e = .returned (.tuple #[.agg #[.int .u8 0, .int .u16 0, .bool false, .int .u8 0, .int .u8 17, .int .u32 5, .int .u32 2, .slice C1 e1 f1, .slice C2 e2 f2], .int .i64 0]) ∧ Bs w' C2 e2 f2 d ∧ Below W.heap.size W w' := fun W B1 m1 d1 B2 d2 K1 K2 => by
    refine (rewrite_any p10 p10_ok t10 t10_ok B1 m1 d1 B2 8 d2 W K1 K2 (by omega)).mono fun e w' hq => ?_
    obtain ⟨C1, e1, f1, C2, e2, f2, rfl, -, h2, h3⟩ := hq.out
    rw [hE]
    rw [hf] at h2 ⊢
    exact ⟨C1, e1, f1, C2, e2, f2, rfl, h2.bs, h3⟩
  have co : ∀ W C1 e1 f1 C2 e2 f2, Bs W C2 e2 f2 d → Calls Try.prog 10 #[.agg #[.int .u8 0, .int .u16 0, .bool false, .int .u8 0, .int .u8 17, .int .u32 5, .int .u32 2, .slice C1 e1 f1, .slice C2 e2 f2]] W fun e w' => e = .returned (.tuple #[.agg #[.int .u8 17, .int .u32 5, .int .u32 2, .int .u16 6, .int .u16 4], .int .i64 0]) ∧ Below W.heap.size W w' := fun W C1 e1 f1 C2 e2 f2 K => by
    have hh := rof_any (rwP p10 t10) hro C1 e1 f1 C2 e2 f2 W (by rw [hf]; exact K) (by have := K.len; omega)
    rw [hb.e, hb.tt, hf] at hh
    exact hh.mono fun e w' hq => hq.out
  clear hE hb hf hdl hro
  have R1 := Below.refl w.heap.size w
  obtain ⟨w1, hw1⟩ : ∃ W, w = W := ⟨_, rfl⟩
  rw [hw1] at R1

  subst hw1
  go_enter Try.func8, Try.ntmps8
  go_wp2_with (first
    | (go_at_call 22; ((with_reducible refine (cu w).mono ?_); rintro e u2 ⟨B1, m1, d1, B2, d2, rfl, k8, k9, hB2⟩); (obtain ⟨w2, hw2⟩ : ∃ W, u2.alloc (.cells #[.int .u8 0, .int .u16 0, .bool false, .int .u8 0, .int .u8 17, .int .u32 1, .int .u32 2, .slice B1 m1 d1, .slice B2 8 d2] 26) = W := ⟨_, rfl⟩); have V2 : Below u2.heap.size u2 w2 := (by rw [← hw2]; (repeat (first | with_reducible exact Below.refl _ _ | with_reducible refine below_drew ?_ | with_reducible refine below_drewN ?_ _ | with_reducible refine below_alloc ?_ (Nat.le_refl _) _ | with_reducible refine Below.setCell ?_ (by first | exact Nat.le_refl _ | (simp only []; omega)) _ | with_reducible assumption))); (obtain ⟨kP2, hkP2⟩ : ∃ k : Nat, u2.heap.size = k := ⟨_, rfl⟩); have P2 : Blk w2 kP2 #[.int .u8 0, .int .u16 0, .bool false, .int .u8 0, .int .u8 17, .int .u32 1, .int .u32 2, .slice B1 m1 d1, .slice B2 8 d2] 26 := (by rw [← hw2]; exact blk_new u2 _ _ _ hkP2); have Pc2 := P2.cell; have T2 := below_then hB2 V2; have x2 := (k8).below V2; have y2 := (k9).below V2; have R2 := below_then R1 T2)
    | (go_at_call 7; ((with_reducible refine (cr w2 B1 m1 d1 B2 d2 x2 y2).mono ?_); rintro e u3 ⟨C1, e1, f1, C2, e2, f2, rfl, k7, hB3⟩); (obtain ⟨w3, hw3⟩ : ∃ W, u3.alloc (.cells #[.int .u8 0, .int .u16 0, .bool false, .int .u8 0, .int .u8 17, .int .u32 5, .int .u32 2, .slice C1 e1 f1, .slice C2 e2 f2] 26) = W := ⟨_, rfl⟩); have V3 : Below u3.heap.size u3 w3 := (by rw [← hw3]; (repeat (first | with_reducible exact Below.refl _ _ | with_reducible refine below_drew ?_ | with_reducible refine below_drewN ?_ _ | with_reducible refine below_alloc ?_ (Nat.le_refl _) _ | with_reducible refine Below.setCell ?_ (by first | exact Nat.le_refl _ | (simp only []; omega)) _ | with_reducible assumption))); (obtain ⟨kO3, hkO3⟩ : ∃ k : Nat, u3.heap.size = k := ⟨_, rfl⟩); have O3 : Blk w3 kO3 #[.int .u8 0, .int .u16 0, .bool false, .int .u8 0, .int .u8 17, .int .u32 5, .int .u32 2, .slice C1 e1 f1, .slice C2 e2 f2] 26 := (by rw [← hw3]; exact blk_new u3 _ _ _ hkO3); have Oc3 := O3.cell; have T3 := below_then hB3 V3; have z3 := (k7).below V3; have P3 := P2.below T3; have Pc3 := P3.cell; clear Pc2; have x3 := x2.below T3; have y3 := y2.below T3; have R3 := below_then R2 T3)
    | (go_at_call 10; ((with_reducible refine (co w3 C1 e1 f1 C2 e2 f2 z3).mono ?_); rintro e u4 ⟨rfl, hB4⟩); (obtain ⟨w4, hw4⟩ : ∃ W, u4.alloc (.cells #[.int .u8 17, .int .u32 5, .int .u32 2, .int .u16 6, .int .u16 4] 28) = W := ⟨_, rfl⟩); have V4 : Below u4.heap.size u4 w4 := (by rw [← hw4]; (repeat (first | with_reducible exact Below.refl _ _ | with_reducible refine below_drew ?_ | with_reducible refine below_drewN ?_ _ | with_reducible refine below_alloc ?_ (Nat.le_refl _) _ | with_reducible refine Below.setCell ?_ (by first | exact Nat.le_refl _ | (simp only []; omega)) _ | with_reducible assumption))); (obtain ⟨kS4, hkS4⟩ : ∃ k : Nat, u4.heap.size = k := ⟨_, rfl⟩); have S4 : Blk w4 kS4 #[.int .u8 17, .int .u32 5, .int .u32 2, .int .u16 6, .int .u16 4] 28 := (by rw [← hw4]; exact blk_new u4 _ _ _ hkS4); have Sc4 := S4.cell; have T4 := below_then hB4 V4; have P4 := P3.below T4; have Pc4 := P4.cell; clear Pc3; have O4 := O3.below T4; have Oc4 := O4.cell; clear Oc3; have x4 := x3.below T4; have y4 := y3.below T4; have z4 := z3.below T4; have R4 := below_then R3 T4))
  go_ret
  exact ⟨rfl, R4⟩
end Go.Proofs.Ytjhpmeagopdaiaa

namespace Go.Proofs.Ytjhpmeagopdaiaa
open Go.RowKit
set_option linter.unusedVariables false
set_option linter.unusedSimpArgs false
set_option linter.unusedSimpArgs false
set_option maxHeartbeats 4000000
set_option maxRecDepth 100000

end Go.Proofs.Ytjhpmeagopdaiaa

namespace Go.Proofs.Ytjhpmeagopdaiaa
open Go.RowKit
set_option linter.unusedVariables false
set_option linter.unusedSimpArgs false
set_option maxHeartbeats 4000000
set_option maxRecDepth 100000

end Go.Proofs.Ytjhpmeagopdaiaa

namespace Go.Proofs.Ytjhpmeagopdaiaa
open Go.RowKit
set_option linter.unusedVariables false
set_option linter.unusedSimpArgs false

end Go.Proofs.Ytjhpmeagopdaiaa

namespace Go.Proofs.Ytjhpmeagopdaiaa
open Go.RowKit
set_option linter.unusedVariables false
set_option linter.unusedSimpArgs false
set_option linter.unusedSimpArgs false
set_option maxHeartbeats 4000000
set_option maxRecDepth 100000

end Go.Proofs.Ytjhpmeagopdaiaa

namespace Go.Proofs.Ytjhpmeagopdaiaa
open Go.RowKit
set_option linter.unusedVariables false
set_option maxRecDepth 100000

def hx (p : Pkt) (c : Int) : List UInt8 := [ub (64 + (20 + (p.opt.length : Int)) / 4), ub p.tos, ub ((20 + (p.opt.length : Int) + (p.dat.length : Int)) / 256), ub (20 + (p.opt.length : Int) + (p.dat.length : Int)), ub (p.id / 256), ub p.id, if p.keep = true then 64 else 0, 0, ub p.ttl, ub p.proto, ub (c / 256), ub c, ub (p.src / 16777216), ub (p.src / 65536), ub (p.src / 256), ub p.src, ub (p.dst / 16777216), ub (p.dst / 65536), ub (p.dst / 256), ub p.dst]
end Go.Proofs.Ytjhpmeagopdaiaa

namespace Go.Proofs.Ytjhpmeagopdaiaa
open Go.RowKit
set_option linter.unusedVariables false

end Go.Proofs.Ytjhpmeagopdaiaa

namespace Go.Proofs.Ytjhpmeagopdaiaa
open Go.RowKit
set_option linter.unusedVariables false
set_option linter.unusedSimpArgs false
set_option maxHeartbeats 4000000
set_option maxRecDepth 100000

end Go.Proofs.Ytjhpmeagopdaiaa

namespace Go.Proofs.Ytjhpmeagopdaiaa
open Go.RowKit
set_option linter.unusedVariables false
set_option linter.unusedSimpArgs false
set_option maxHeartbeats 4000000

end Go.Proofs.Ytjhpmeagopdaiaa

namespace Go.Proofs.Ytjhpmeagopdaiaa
open Go.RowKit
set_option linter.unusedVariables false
set_option linter.unusedSimpArgs false
set_option maxHeartbeats 8000000
set_option maxRecDepth 100000

end Go.Proofs.Ytjhpmeagopdaiaa

namespace Go.Proofs.Ytjhpmeagopdaiaa
open Go.RowKit
set_option linter.unusedVariables false
set_option linter.unusedSimpArgs false
set_option maxHeartbeats 4000000
set_option maxRecDepth 100000

end Go.Proofs.Ytjhpmeagopdaiaa

namespace Go.Proofs.Ytjhpmeagopdaiaa
open Go.RowKit
set_option linter.unusedVariables false
set_option linter.unusedSimpArgs false
set_option maxHeartbeats 8000000
set_option maxRecDepth 100000

end Go.Proofs.Ytjhpmeagopdaiaa

namespace Go.Proofs.Ytjhpmeagopdaiaa
open Go.RowKit
set_option linter.unusedVariables false
set_option linter.unusedSimpArgs false
set_option linter.unusedSimpArgs false
set_option maxHeartbeats 8000000
set_option maxRecDepth 100000

end Go.Proofs.Ytjhpmeagopdaiaa

namespace Go.Proofs.Ytjhpmeagopdaiaa
open Go.RowKit
set_option linter.unusedVariables false
set_option linter.unusedSimpArgs false
set_option maxHeartbeats 4000000
set_option maxRecDepth 100000

end Go.Proofs.Ytjhpmeagopdaiaa

namespace Go.Proofs.Ytjhpmeagopdaiaa
open Go.RowKit
set_option linter.unusedVariables false
set_option linter.unusedSimpArgs false
set_option maxHeartbeats 4000000
set_option maxRecDepth 100000

end Go.Proofs.Ytjhpmeagopdaiaa

namespace Go.Proofs.Ytjhpmeagopdaiaa
open Go.RowKit
set_option linter.unusedVariables false
set_option linter.unusedSimpArgs false
set_option linter.unusedSimpArgs false
set_option maxHeartbeats 8000000
set_option maxRecDepth 100000

theorem mangleSelf_walk (w : World) (p : Pkt) (hp : p.Ok) (A1 : Option Addr) (n1 c1 : Nat) (A2 : Option Addr) (n2 c2 : Nat) (k1 : Bs w A1 n1 c1 p.opt) (k2 : Bs w A2 n2 c2 p.dat) (z1 : n1 ≤ 1048576) (z2 : n2 ≤ 1048576) :
    Calls Try.prog 4 #[(.agg #[.int .u8 (p).tos, .int .u16 (p).id, .bool (p).keep, .int .u8 (p).ttl, .int .u8 (p).proto, .int .u32 (p).src, .int .u32 (p).dst, .slice A1 n1 c1, .slice A2 n2 c2])] w fun e w' => e = .returned (.bool true) ∧ Below w.heap.size w w' := by
  have ho := fun W k => rof_any p hp A1 n1 c1 A2 n2 c2 W k (by omega)
  have hr := fun W k k' => rewrite_any p hp (ofT p) (ofT_ok hp) A1 n1 c1 A2 n2 c2 W k k' (by omega)
  have hi := fun W k k' => rright_any p A1 n1 c1 A2 n2 c2 W k k'
  have hl := fun (h : rwE p (ofT p) = 0) => (rw_back hp (ofT_ok hp) h).form
  have hself := fun h => rw_self hp h
  have ha := fun q hq B1 m1 d1 B2 m2 d2 W k j y h hof => alike_any p q hp hq A1 n1 c1 A2 n2 c2 B1 m1 d1 B2 m2 d2 W k j (by omega) y h hof
  have hoT := ofT_ok hp
  have l2 := k2.len
  by_cases h0 : ofE p = 0
  case neg =>
    have h0b : (ofE p != 0) = true := by simpa using h0
    clear hr hi hl hself ha hoT l2 h0
    obtain ⟨U, hU⟩ : ∃ q, ofT p = q := ⟨_, rfl⟩
    obtain ⟨E, hE⟩ : ∃ q, ofE p = q := ⟨_, rfl⟩
    rw [hU, hE] at ho
    rw [hE] at h0b
    clear hU hE hp
    obtain ⟨k, hk⟩ : ∃ k : Nat, w.heap.size = k := ⟨_, rfl⟩
    obtain ⟨w1, hw1⟩ : ∃ W, (w.alloc (.cells #[.int .u8 (p).tos, .int .u16 (p).id, .bool (p).keep, .int .u8 (p).ttl, .int .u8 (p).proto, .int .u32 (p).src, .int .u32 (p).dst, .slice A1 n1 c1, .slice A2 n2 c2] 26)) = W := ⟨_, rfl⟩
    have P1 : Blk w1 k #[.int .u8 (p).tos, .int .u16 (p).id, .bool (p).keep, .int .u8 (p).ttl, .int .u8 (p).proto, .int .u32 (p).src, .int .u32 (p).dst, .slice A1 n1 c1, .slice A2 n2 c2] 26 := by rw [← hw1]; exact (blk_new _ _ _ k (by simp [hk]))
    have R1 : Below w.heap.size w w1 := by rw [← hw1]; (repeat (first | with_reducible exact Below.refl _ _ | with_reducible refine below_drew ?_ | with_reducible refine below_drewN ?_ _ | with_reducible refine below_alloc ?_ (Nat.le_refl _) _ | with_reducible refine Below.setCell ?_ (by first | exact Nat.le_refl _ | (simp only []; omega)) _ | with_reducible assumption))
    have Pc1 := P1.cell
    have Pl1 := P1.lt
    have x1 := (k1).below R1
    have y1 := (k2).below R1
    go_enter Try.func4, Try.ntmps4
    go_wp2_with (first
      | (go_at_call 10; ((with_reducible refine (ho w1 y1).mono ?_); rintro e u2 ⟨⟨rfl, hB2⟩⟩); (obtain ⟨w2, hw2⟩ : ∃ W, u2.alloc (.cells #[.int .u8 (U).proto, .int .u32 (U).src, .int .u32 (U).dst, .int .u16 (U).sp, .int .u16 (U).dp] 28) = W := ⟨_, rfl⟩); have V2 : Below u2.heap.size u2 w2 := (by rw [← hw2]; (repeat (first | with_reducible exact Below.refl _ _ | with_reducible refine below_drew ?_ | with_reducible refine below_drewN ?_ _ | with_reducible refine below_alloc ?_ (Nat.le_refl _) _ | with_reducible refine Below.setCell ?_ (by first | exact Nat.le_refl _ | (simp only []; omega)) _ | with_reducible assumption))); (obtain ⟨kG2, hkG2⟩ : ∃ k : Nat, u2.heap.size = k := ⟨_, rfl⟩); have G2 : Blk w2 kG2 #[.int .u8 (U).proto, .int .u32 (U).src, .int .u32 (U).dst, .int .u16 (U).sp, .int .u16 (U).dp] 28 := (by rw [← hw2]; exact blk_new u2 _ _ _ hkG2); have Gc2 := G2.cell; have T2 := below_then hB2 V2; have P2 := P1.below T2; have Pc2 := P2.cell; clear Pc1; have x2 := x1.below T2; have y2 := y1.below T2; have R2 := below_then R1 T2)
      | (go_at_call 8; ((with_reducible refine (live10_any w2).mono ?_); rintro e w3 ⟨rfl, hB3⟩); have P3 := P2.below hB3; have Pc3 := P3.cell; clear Pc2; have G3 := G2.below hB3; have Gc3 := G3.cell; clear Gc2; have x3 := x2.below hB3; have y3 := y2.below hB3; have R3 := below_then R2 hB3))
    go_ret
    exact ⟨rfl, R3⟩

  have hself := hself h0
  have ha := fun q hq B1 m1 d1 B2 m2 d2 W k j y h => ha q hq B1 m1 d1 B2 m2 d2 W k j y h h0
  rw [h0] at ho
  rcases hself with ⟨hE, hal⟩ | ⟨hE, hri⟩
  · obtain ⟨d, hf, hdl⟩ := hl hE
    obtain ⟨Q, hQ⟩ : ∃ q, rwP p (ofT p) = q := ⟨_, rfl⟩
    rw [hQ] at hr hal hf
    rw [hE] at hr
    have hQo : Q.Ok := by rw [hf]; exact ⟨hp.1, hp.2, hp.3, hp.4, hoT.src, hoT.dst⟩
    have hQl : Q.dat.length ≤ n2 := by rw [hf]; show d.length ≤ n2; omega
    have ha := fun B1 m1 d1 B2 m2 d2 W k j => ha Q hQo B1 m1 d1 B2 m2 d2 W k j
    obtain ⟨U, hU⟩ : ∃ q, ofT p = q := ⟨_, rfl⟩
    rw [hU] at ho hr
    have hal' : ∀ B1 m1 d1 B2 m2 d2 W, Bs W A2 n2 c2 p.dat → Bs W B2 m2 d2 Q.dat → Calls Try.prog 13 #[(.agg #[.int .u8 (p).tos, .int .u16 (p).id, .bool (p).keep, .int .u8 (p).ttl, .int .u8 (p).proto, .int .u32 (p).src, .int .u32 (p).dst, .slice A1 n1 c1, .slice A2 n2 c2]), (.agg #[.int .u8 (Q).tos, .int .u16 (Q).id, .bool (Q).keep, .int .u8 (Q).ttl, .int .u8 (Q).proto, .int .u32 (Q).src, .int .u32 (Q).dst, .slice B1 m1 d1, .slice B2 m2 d2])] W fun e w' => e = .returned (.bool true) ∧ Below W.heap.size W w' := fun B1 m1 d1 B2 m2 d2 W k j => ha B1 m1 d1 B2 m2 d2 W k j (by have := j.len; omega) hal
    clear ha hal hf hdl hQ hl hi hQo hU hp hoT hQl hE h0 l2
    obtain ⟨k, hk⟩ : ∃ k : Nat, w.heap.size = k := ⟨_, rfl⟩
    obtain ⟨w1, hw1⟩ : ∃ W, (w.alloc (.cells #[.int .u8 (p).tos, .int .u16 (p).id, .bool (p).keep, .int .u8 (p).ttl, .int .u8 (p).proto, .int .u32 (p).src, .int .u32 (p).dst, .slice A1 n1 c1, .slice A2 n2 c2] 26)) = W := ⟨_, rfl⟩
    have P1 : Blk w1 k #[.int .u8 (p).tos, .int .u16 (p).id, .bool (p).keep, .int .u8 (p).ttl, .int .u8 (p).proto, .int .u32 (p).src, .int .u32 (p).dst, .slice A1 n1 c1, .slice A2 n2 c2] 26 := by rw [← hw1]; exact (blk_new _ _ _ k (by simp [hk]))
    have R1 : Below w.heap.size w w1 := by rw [← hw1]; (repeat (first | with_reducible exact Below.refl _ _ | with_reducible refine below_drew ?_ | with_reducible refine below_drewN ?_ _ | with_reducible refine below_alloc ?_ (Nat.le_refl _) _ | with_reducible refine Below.setCell ?_ (by first | exact Nat.le_refl _ | (simp only []; omega)) _ | with_reducible assumption))
    have Pc1 := P1.cell
    have Pl1 := P1.lt
    have x1 := (k1).below R1
    have y1 := (k2).below R1
    go_enter Try.func4, Try.ntmps4
    go_wp2_with (first
      | (go_at_call 10; ((with_reducible refine (ho w1 y1).mono ?_); rintro e u2 ⟨⟨rfl, hB2⟩⟩); (obtain ⟨w2, hw2⟩ : ∃ W, u2.alloc (.cells #[.int .u8 (U).proto, .int .u32 (U).src, .int .u32 (U).dst, .int .u16 (U).sp, .int .u16 (U).dp] 28) = W := ⟨_, rfl⟩); have V2 : Below u2.heap.size u2 w2 := (by rw [← hw2]; (repeat (first | with_reducible exact Below.refl _ _ | with_reducible refine below_drew ?_ | with_reducible refine below_drewN ?_ _ | with_reducible refine below_alloc ?_ (Nat.le_refl _) _ | with_reducible refine Below.setCell ?_ (by first | exact Nat.le_refl _ | (simp only []; omega)) _ | with_reducible assumption))); (obtain ⟨kG2, hkG2⟩ : ∃ k : Nat, u2.heap.size = k := ⟨_, rfl⟩); have G2 : Blk w2 kG2 #[.int .u8 (U).proto, .int .u32 (U).src, .int .u32 (U).dst, .int .u16 (U).sp, .int .u16 (U).dp] 28 := (by rw [← hw2]; exact blk_new u2 _ _ _ hkG2); have Gc2 := G2.cell; have T2 := below_then hB2 V2; have P2 := P1.below T2; have Pc2 := P2.cell; clear Pc1; have x2 := x1.below T2; have y2 := y1.below T2; have R2 := below_then R1 T2)
      | (go_at_call 7; ((with_reducible refine (hr w2 x2 y2).mono ?_); rintro e u3 ⟨⟨C1, e1, f1, C2, e2, f2, rfl, o1, o2, hB3⟩⟩); (obtain ⟨w3, hw3⟩ : ∃ W, u3.alloc (.cells #[.int .u8 (Q).tos, .int .u16 (Q).id, .bool (Q).keep, .int .u8 (Q).ttl, .int .u8 (Q).proto, .int .u32 (Q).src, .int .u32 (Q).dst, .slice C1 e1 f1, .slice C2 e2 f2] 26) = W := ⟨_, rfl⟩); have V3 : Below u3.heap.size u3 w3 := (by rw [← hw3]; (repeat (first | with_reducible exact Below.refl _ _ | with_reducible refine below_drew ?_ | with_reducible refine below_drewN ?_ _ | with_reducible refine below_alloc ?_ (Nat.le_refl _) _ | with_reducible refine Below.setCell ?_ (by first | exact Nat.le_refl _ | (simp only []; omega)) _ | with_reducible assumption))); (obtain ⟨kO3, hkO3⟩ : ∃ k : Nat, u3.heap.size = k := ⟨_, rfl⟩); have O3 : Blk w3 kO3 #[.int .u8 (Q).tos, .int .u16 (Q).id, .bool (Q).keep, .int .u8 (Q).ttl, .int .u8 (Q).proto, .int .u32 (Q).src, .int .u32 (Q).dst, .slice C1 e1 f1, .slice C2 e2 f2] 26 := (by rw [← hw3]; exact blk_new u3 _ _ _ hkO3); have Oc3 := O3.cell; have T3 := below_then hB3 V3; have z3 := (o2.bs).below V3; have P3 := P2.below T3; have Pc3 := P3.cell; clear Pc2; have G3 := G2.below T3; have Gc3 := G3.cell; clear Gc2; have x3 := x2.below T3; have y3 := y2.below T3; have R3 := below_then R2 T3)
      | (go_at_call 8; ((with_reducible refine (live10_any w3).mono ?_); rintro e w4 ⟨rfl, hB4⟩); have P4 := P3.below hB4; have Pc4 := P4.cell; clear Pc3; have G4 := G3.below hB4; have Gc4 := G4.cell; clear Gc3; have O4 := O3.below hB4; have Oc4 := O4.cell; clear Oc3; have x4 := x3.below hB4; have y4 := y3.below hB4; have z4 := z3.below hB4; have R4 := below_then R3 hB4)
      | (go_at_call 13; ((with_reducible refine (hal' C1 e1 f1 C2 e2 f2 w4 y4 z4).mono ?_); rintro e w5 ⟨rfl, hB5⟩); have P5 := P4.below hB5; have Pc5 := P5.cell; clear Pc4; have G5 := G4.below hB5; have Gc5 := G5.cell; clear Gc4; have O5 := O4.below hB5; have Oc5 := O5.cell; clear Oc4; have x5 := x4.below hB5; have y5 := y4.below hB5; have z5 := z4.below hB5; have R5 := below_then R4 hB5))
    go_ret
    exact ⟨rfl, R5⟩

  · have h0b : (rwE p (ofT p) != 0) = true := by simpa using hE
    rw [hri] at hi
    obtain ⟨Q, hQ⟩ : ∃ q, rwP p (ofT p) = q := ⟨_, rfl⟩
    obtain ⟨F, hF⟩ : ∃ q, rwE p (ofT p) = q := ⟨_, rfl⟩
    rw [hQ, hF] at hr
    rw [hF] at h0b
    obtain ⟨U, hU⟩ : ∃ q, ofT p = q := ⟨_, rfl⟩
    rw [hU] at ho hr
    clear ha hl hU hp hoT hE h0 l2 hQ hF hri
    obtain ⟨k, hk⟩ : ∃ k : Nat, w.heap.size = k := ⟨_, rfl⟩
    obtain ⟨w1, hw1⟩ : ∃ W, (w.alloc (.cells #[.int .u8 (p).tos, .int .u16 (p).id, .bool (p).keep, .int .u8 (p).ttl, .int .u8 (p).proto, .int .u32 (p).src, .int .u32 (p).dst, .slice A1 n1 c1, .slice A2 n2 c2] 26)) = W := ⟨_, rfl⟩
    have P1 : Blk w1 k #[.int .u8 (p).tos, .int .u16 (p).id, .bool (p).keep, .int .u8 (p).ttl, .int .u8 (p).proto, .int .u32 (p).src, .int .u32 (p).dst, .slice A1 n1 c1, .slice A2 n2 c2] 26 := by rw [← hw1]; exact (blk_new _ _ _ k (by simp [hk]))
    have R1 : Below w.heap.size w w1 := by rw [← hw1]; (repeat (first | with_reducible exact Below.refl _ _ | with_reducible refine below_drew ?_ | with_reducible refine below_drewN ?_ _ | with_reducible refine below_alloc ?_ (Nat.le_refl _) _ | with_reducible refine Below.setCell ?_ (by first | exact Nat.le_refl _ | (simp only []; omega)) _ | with_reducible assumption))
    have Pc1 := P1.cell
    have Pl1 := P1.lt
    have x1 := (k1).below R1
    have y1 := (k2).below R1
    go_enter Try.func4, Try.ntmps4
    go_wp2_with (first
      | (go_at_call 10; ((with_reducible refine (ho w1 y1).mono ?_); rintro e u2 ⟨⟨rfl, hB2⟩⟩); (obtain ⟨w2, hw2⟩ : ∃ W, u2.alloc (.cells #[.int .u8 (U).proto, .int .u32 (U).src, .int .u32 (U).dst, .int .u16 (U).sp, .int .u16 (U).dp] 28) = W := ⟨_, rfl⟩); have V2 : Below u2.heap.size u2 w2 := (by rw [← hw2]; (repeat (first | with_reducible exact Below.refl _ _ | with_reducible refine below_drew ?_ | with_reducible refine below_drewN ?_ _ | with_reducible refine below_alloc ?_ (Nat.le_refl _) _ | with_reducible refine Below.setCell ?_ (by first | exact Nat.le_refl _ | (simp only []; omega)) _ | with_reducible assumption))); (obtain ⟨kG2, hkG2⟩ : ∃ k : Nat, u2.heap.size = k := ⟨_, rfl⟩); have G2 : Blk w2 kG2 #[.int .u8 (U).proto, .int .u32 (U).src, .int .u32 (U).dst, .int .u16 (U).sp, .int .u16 (U).dp] 28 := (by rw [← hw2]; exact blk_new u2 _ _ _ hkG2); have Gc2 := G2.cell; have T2 := below_then hB2 V2; have P2 := P1.below T2; have Pc2 := P2.cell; clear Pc1; have x2 := x1.below T2; have y2 := y1.below T2; have R2 := below_then R1 T2)
      | (go_at_call 7; ((with_reducible refine (hr w2 x2 y2).mono ?_); rintro e u3 ⟨⟨C1, e1, f1, C2, e2, f2, rfl, o1, o2, hB3⟩⟩); (obtain ⟨w3, hw3⟩ : ∃ W, u3.alloc (.cells #[.int .u8 (Q).tos, .int .u16 (Q).id, .bool (Q).keep, .int .u8 (Q).ttl, .int .u8 (Q).proto, .int .u32 (Q).src, .int .u32 (Q).dst, .slice C1 e1 f1, .slice C2 e2 f2] 26) = W := ⟨_, rfl⟩); have V3 : Below u3.heap.size u3 w3 := (by rw [← hw3]; (repeat (first | with_reducible exact Below.refl _ _ | with_reducible refine below_drew ?_ | with_reducible refine below_drewN ?_ _ | with_reducible refine below_alloc ?_ (Nat.le_refl _) _ | with_reducible refine Below.setCell ?_ (by first | exact Nat.le_refl _ | (simp only []; omega)) _ | with_reducible assumption))); (obtain ⟨kO3, hkO3⟩ : ∃ k : Nat, u3.heap.size = k := ⟨_, rfl⟩); have O3 : Blk w3 kO3 #[.int .u8 (Q).tos, .int .u16 (Q).id, .bool (Q).keep, .int .u8 (Q).ttl, .int .u8 (Q).proto, .int .u32 (Q).src, .int .u32 (Q).dst, .slice C1 e1 f1, .slice C2 e2 f2] 26 := (by rw [← hw3]; exact blk_new u3 _ _ _ hkO3); have Oc3 := O3.cell; have T3 := below_then hB3 V3; have P3 := P2.below T3; have Pc3 := P3.cell; clear Pc2; have G3 := G2.below T3; have Gc3 := G3.cell; clear Gc2; have x3 := x2.below T3; have y3 := y2.below T3; have R3 := below_then R2 T3)
      | (go_at_call 8; ((with_reducible refine (live10_any w3).mono ?_); rintro e w4 ⟨rfl, hB4⟩); have P4 := P3.below hB4; have Pc4 := P4.cell; clear Pc3; have G4 := G3.below hB4; have Gc4 := G4.cell; clear Gc3; have O4 := O3.below hB4; have Oc4 := O4.cell; clear Oc3; have x4 := x3.below hB4; have y4 := y3.below hB4; have R4 := below_then R3 hB4)
      | (go_at_call 12; ((with_reducible refine (hi w4 x4 y4).mono ?_); rintro e w5 ⟨rfl, hB5⟩); have P5 := P4.below hB5; have Pc5 := P5.cell; clear Pc4; have G5 := G4.below hB5; have Gc5 := G5.cell; clear Gc4; have O5 := O4.below hB5; have Oc5 := O5.cell; clear Oc4; have x5 := x4.below hB5; have y5 := y4.below hB5; have R5 := below_then R4 hB5))
    go_ret
    exact ⟨rfl, R5⟩

theorem mangleBack_walk (w : World) (p : Pkt) (hp : p.Ok) (A1 : Option Addr) (n1 c1 : Nat) (A2 : Option Addr) (n2 c2 : Nat) (k1 : Bs w A1 n1 c1 p.opt) (k2 : Bs w A2 n2 c2 p.dat) (z1 : n1 ≤ 1048576) (z2 : n2 ≤ 1048576) (t : Tup) (ht : t.Ok) :
    Calls Try.prog 5 #[(.agg #[.int .u8 (p).tos, .int .u16 (p).id, .bool (p).keep, .int .u8 (p).ttl, .int .u8 (p).proto, .int .u32 (p).src, .int .u32 (p).dst, .slice A1 n1 c1, .slice A2 n2 c2]), (.agg #[.int .u8 (t).proto, .int .u32 (t).src, .int .u32 (t).dst, .int .u16 (t).sp, .int .u16 (t).dp])] w fun e w' => e = .returned (.bool true) ∧ Below w.heap.size w w' := by
  have ho := fun W k => rof_any p hp A1 n1 c1 A2 n2 c2 W k (by omega)
  have hr := fun W k k' => rewrite_any p hp t ht A1 n1 c1 A2 n2 c2 W k k' (by omega)
  have l2 := k2.len
  by_cases hgood : ofE p = 0 ∧ rwE p t = 0
  case neg =>
    have hbad : (ofE p != 0) = true ∨ (ofE p = 0 ∧ (rwE p t != 0) = true) := by
      by_cases h : ofE p = 0
      · exact .inr ⟨h, by simpa using fun h' => hgood ⟨h, h'⟩⟩
      · exact .inl (by simpa using h)
    obtain ⟨U, hU⟩ : ∃ q, ofT p = q := ⟨_, rfl⟩
    obtain ⟨E, hE⟩ : ∃ q, ofE p = q := ⟨_, rfl⟩
    obtain ⟨Q, hQ⟩ : ∃ q, rwP p t = q := ⟨_, rfl⟩
    obtain ⟨F, hF⟩ : ∃ q, rwE p t = q := ⟨_, rfl⟩
    rw [hU, hE] at ho
    rw [hQ, hF] at hr
    rw [hE, hF] at hbad
    clear hU hE hQ hF hgood hp ht l2
    obtain ⟨k, hk⟩ : ∃ k : Nat, w.heap.size = k := ⟨_, rfl⟩
    obtain ⟨w1, hw1⟩ : ∃ W, ((w.alloc (.cells #[.int .u8 (p).tos, .int .u16 (p).id, .bool (p).keep, .int .u8 (p).ttl, .int .u8 (p).proto, .int .u32 (p).src, .int .u32 (p).dst, .slice A1 n1 c1, .slice A2 n2 c2] 26)).alloc (.cells #[.int .u8 (t).proto, .int .u32 (t).src, .int .u32 (t).dst, .int .u16 (t).sp, .int .u16 (t).dp] 28)) = W := ⟨_, rfl⟩
    have P1 : Blk w1 k #[.int .u8 (p).tos, .int .u16 (p).id, .bool (p).keep, .int .u8 (p).ttl, .int .u8 (p).proto, .int .u32 (p).src, .int .u32 (p).dst, .slice A1 n1 c1, .slice A2 n2 c2] 26 := by rw [← hw1]; exact ((blk_new _ _ _ k (by simp [hk])).alloc _)
    have O1 : Blk w1 (k + 1) #[.int .u8 (t).proto, .int .u32 (t).src, .int .u32 (t).dst, .int .u16 (t).sp, .int .u16 (t).dp] 28 := by rw [← hw1]; exact (blk_new _ _ _ (k + 1) (by simp [hk]))
    have R1 : Below w.heap.size w w1 := by rw [← hw1]; (repeat (first | with_reducible exact Below.refl _ _ | with_reducible refine below_drew ?_ | with_reducible refine below_drewN ?_ _ | with_reducible refine below_alloc ?_ (Nat.le_refl _) _ | with_reducible refine Below.setCell ?_ (by first | exact Nat.le_refl _ | (simp only []; omega)) _ | with_reducible assumption))
    have Pc1 := P1.cell
    have Oc1 := O1.cell
    have Pl1 := P1.lt
    have Ol1 := O1.lt
    have x1 := (k1).below R1
    have y1 := (k2).below R1
    rcases hbad with h | ⟨rfl, h⟩
    · go_enter Try.func5, Try.ntmps5
      go_wp2_with (first
        | (go_at_call 10; ((with_reducible refine (ho w1 y1).mono ?_); rintro e u2 ⟨⟨rfl, hB2⟩⟩); (obtain ⟨w2, hw2⟩ : ∃ W, u2.alloc (.cells #[.int .u8 (U).proto, .int .u32 (U).src, .int .u32 (U).dst, .int .u16 (U).sp, .int .u16 (U).dp] 28) = W := ⟨_, rfl⟩); have V2 : Below u2.heap.size u2 w2 := (by rw [← hw2]; (repeat (first | with_reducible exact Below.refl _ _ | with_reducible refine below_drew ?_ | with_reducible refine below_drewN ?_ _ | with_reducible refine below_alloc ?_ (Nat.le_refl _) _ | with_reducible refine Below.setCell ?_ (by first | exact Nat.le_refl _ | (simp only []; omega)) _ | with_reducible assumption))); (obtain ⟨kG2, hkG2⟩ : ∃ k : Nat, u2.heap.size = k := ⟨_, rfl⟩); have G2 : Blk w2 kG2 #[.int .u8 (U).proto, .int .u32 (U).src, .int .u32 (U).dst, .int .u16 (U).sp, .int .u16 (U).dp] 28 := (by rw [← hw2]; exact blk_new u2 _ _ _ hkG2); have Gc2 := G2.cell; have T2 := below_then hB2 V2; have P2 := P1.below T2; have Pc2 := P2.cell; clear Pc1; have O2 := O1.below T2; have Oc2 := O2.cell; clear Oc1; have x2 := x1.below T2; have y2 := y1.below T2; have R2 := below_then R1 T2)
        | (go_at_call 7; ((with_reducible refine (hr w2 x2 y2).mono ?_); rintro e u3 ⟨⟨C1, e1, f1, C2, e2, f2, rfl, o1, o2, hB3⟩⟩); (obtain ⟨w3, hw3⟩ : ∃ W, u3.alloc (.cells #[.int .u8 (Q).tos, .int .u16 (Q).id, .bool (Q).keep, .int .u8 (Q).ttl, .int .u8 (Q).proto, .int .u32 (Q).src, .int .u32 (Q).dst, .slice C1 e1 f1, .slice C2 e2 f2] 26) = W := ⟨_, rfl⟩); have V3 : Below u3.heap.size u3 w3 := (by rw [← hw3]; (repeat (first | with_reducible exact Below.refl _ _ | with_reducible refine below_drew ?_ | with_reducible refine below_drewN ?_ _ | with_reducible refine below_alloc ?_ (Nat.le_refl _) _ | with_reducible refine Below.setCell ?_ (by first | exact Nat.le_refl _ | (simp only []; omega)) _ | with_reducible assumption))); (obtain ⟨kS3, hkS3⟩ : ∃ k : Nat, u3.heap.size = k := ⟨_, rfl⟩); have S3 : Blk w3 kS3 #[.int .u8 (Q).tos, .int .u16 (Q).id, .bool (Q).keep, .int .u8 (Q).ttl, .int .u8 (Q).proto, .int .u32 (Q).src, .int .u32 (Q).dst, .slice C1 e1 f1, .slice C2 e2 f2] 26 := (by rw [← hw3]; exact blk_new u3 _ _ _ hkS3); have Sc3 := S3.cell; have T3 := below_then hB3 V3; have P3 := P2.below T3; have Pc3 := P3.cell; clear Pc2; have O3 := O2.below T3; have Oc3 := O3.cell; clear Oc2; have G3 := G2.below T3; have Gc3 := G3.cell; clear Gc2; have x3 := x2.below T3; have y3 := y2.below T3; have R3 := below_then R2 T3)
        | (go_at_call 8; ((with_reducible refine (live10_any w3).mono ?_); rintro e w4 ⟨rfl, hB4⟩); have P4 := P3.below hB4; have Pc4 := P4.cell; clear Pc3; have O4 := O3.below hB4; have Oc4 := O4.cell; clear Oc3; have G4 := G3.below hB4; have Gc4 := G4.cell; clear Gc3; have S4 := S3.below hB4; have Sc4 := S4.cell; clear Sc3; have x4 := x3.below hB4; have y4 := y3.below hB4; have R4 := below_then R3 hB4))
      go_ret
      exact ⟨rfl, R4⟩

    · go_enter Try.func5, Try.ntmps5
      go_wp2_with (first
        | (go_at_call 10; ((with_reducible refine (ho w1 y1).mono ?_); rintro e u2 ⟨⟨rfl, hB2⟩⟩); (obtain ⟨w2, hw2⟩ : ∃ W, u2.alloc (.cells #[.int .u8 (U).proto, .int .u32 (U).src, .int .u32 (U).dst, .int .u16 (U).sp, .int .u16 (U).dp] 28) = W := ⟨_, rfl⟩); have V2 : Below u2.heap.size u2 w2 := (by rw [← hw2]; (repeat (first | with_reducible exact Below.refl _ _ | with_reducible refine below_drew ?_ | with_reducible refine below_drewN ?_ _ | with_reducible refine below_alloc ?_ (Nat.le_refl _) _ | with_reducible refine Below.setCell ?_ (by first | exact Nat.le_refl _ | (simp only []; omega)) _ | with_reducible assumption))); (obtain ⟨kG2, hkG2⟩ : ∃ k : Nat, u2.heap.size = k := ⟨_, rfl⟩); have G2 : Blk w2 kG2 #[.int .u8 (U).proto, .int .u32 (U).src, .int .u32 (U).dst, .int .u16 (U).sp, .int .u16 (U).dp] 28 := (by rw [← hw2]; exact blk_new u2 _ _ _ hkG2); have Gc2 := G2.cell; have T2 := below_then hB2 V2; have P2 := P1.below T2; have Pc2 := P2.cell; clear Pc1; have O2 := O1.below T2; have Oc2 := O2.cell; clear Oc1; have x2 := x1.below T2; have y2 := y1.below T2; have R2 := below_then R1 T2)
        | (go_at_call 7; ((with_reducible refine (hr w2 x2 y2).mono ?_); rintro e u3 ⟨⟨C1, e1, f1, C2, e2, f2, rfl, o1, o2, hB3⟩⟩); (obtain ⟨w3, hw3⟩ : ∃ W, u3.alloc (.cells #[.int .u8 (Q).tos, .int .u16 (Q).id, .bool (Q).keep, .int .u8 (Q).ttl, .int .u8 (Q).proto, .int .u32 (Q).src, .int .u32 (Q).dst, .slice C1 e1 f1, .slice C2 e2 f2] 26) = W := ⟨_, rfl⟩); have V3 : Below u3.heap.size u3 w3 := (by rw [← hw3]; (repeat (first | with_reducible exact Below.refl _ _ | with_reducible refine below_drew ?_ | with_reducible refine below_drewN ?_ _ | with_reducible refine below_alloc ?_ (Nat.le_refl _) _ | with_reducible refine Below.setCell ?_ (by first | exact Nat.le_refl _ | (simp only []; omega)) _ | with_reducible assumption))); (obtain ⟨kS3, hkS3⟩ : ∃ k : Nat, u3.heap.size = k := ⟨_, rfl⟩); have S3 : Blk w3 kS3 #[.int .u8 (Q).tos, .int .u16 (Q).id, .bool (Q).keep, .int .u8 (Q).ttl, .int .u8 (Q).proto, .int .u32 (Q).src, .int .u32 (Q).dst, .slice C1 e1 f1, .slice C2 e2 f2] 26 := (by rw [← hw3]; exact blk_new u3 _ _ _ hkS3); have Sc3 := S3.cell; have T3 := below_then hB3 V3; have P3 := P2.below T3; have Pc3 := P3.cell; clear Pc2; have O3 := O2.below T3; have Oc3 := O3.cell; clear Oc2; have G3 := G2.below T3; have Gc3 := G3.cell; clear Gc2; have x3 := x2.below T3; have y3 := y2.below T3; have R3 := below_then R2 T3)
        | (go_at_call 8; ((with_reducible refine (live10_any w3).mono ?_); rintro e w4 ⟨rfl, hB4⟩); have P4 := P3.below hB4; have Pc4 := P4.cell; clear Pc3; have O4 := O3.below hB4; have Oc4 := O4.cell; clear Oc3; have G4 := G3.below hB4; have Gc4 := G4.cell; clear Gc3; have S4 := S3.below hB4; have Sc4 := S4.cell; clear Sc3; have x4 := x3.below hB4; have y4 := y3.below hB4; have R4 := below_then R3 hB4))
      go_ret
      exact ⟨rfl, R4⟩

  obtain ⟨h0, hE⟩ := hgood
  obtain ⟨b1, b2⟩ := rw_and_back hp ht h0 hE
  have hb := rw_back hp ht hE
  obtain ⟨d, hf, hdl⟩ := hb.form
  have hQo : (rwP p t).Ok := by rw [hf]; exact ⟨hp.1, hp.2, hp.3, hp.4, ht.src, ht.dst⟩
  have hQl : (rwP p t).dat.length ≤ n2 := by rw [hf]; show d.length ≤ n2; omega
  have hoT := ofT_ok hp
  obtain ⟨d', hf', hdl'⟩ := (rw_back hQo hoT b1).form
  have hSo : (rwP (rwP p t) (ofT p)).Ok := by rw [hf']; exact ⟨hQo.1, hQo.2, hQo.3, hQo.4, hoT.src, hoT.dst⟩
  have hSl : (rwP (rwP p t) (ofT p)).dat.length ≤ n2 := by rw [hf']; show d'.length ≤ n2; omega
  have hs := fun W B1 m1 d1 B2 m2 d2 k k' h => rewrite_any (rwP p t) hQo (ofT p) hoT B1 m1 d1 B2 m2 d2 W k k' h
  obtain ⟨S, hS⟩ : ∃ q, rwP (rwP p t) (ofT p) = q := ⟨_, rfl⟩
  rw [hS] at hs hSo hSl b2
  rw [b1] at hs
  rw [hE] at hr
  rw [h0] at ho
  obtain ⟨Q, hQ⟩ : ∃ q, rwP p t = q := ⟨_, rfl⟩
  rw [hQ] at hr hs hQl
  obtain ⟨U, hU⟩ : ∃ q, ofT p = q := ⟨_, rfl⟩
  rw [hU] at ho hs
  have hs' : ∀ W B1 m1 d1 B2 m2 d2, Bs W B1 m1 d1 Q.opt → Bs W B2 m2 d2 Q.dat → Calls Try.prog 7 #[(.agg #[.int .u8 (Q).tos, .int .u16 (Q).id, .bool (Q).keep, .int .u8 (Q).ttl, .int .u8 (Q).proto, .int .u32 (Q).src, .int .u32 (Q).dst, .slice B1 m1 d1, .slice B2 m2 d2]), (.agg #[.int .u8 (U).proto, .int .u32 (U).src, .int .u32 (U).dst, .int .u16 (U).sp, .int .u16 (U).dp])] W (WiPost W S 0) := fun W B1 m1 d1 B2 m2 d2 k k' => hs W B1 m1 d1 B2 m2 d2 k k' (by have := k'.len; omega)
  have hal' : ∀ B1 m1 d1 B2 m2 d2 W, Bs W A2 n2 c2 p.dat → Bs W B2 m2 d2 S.dat → Calls Try.prog 13 #[(.agg #[.int .u8 (p).tos, .int .u16 (p).id, .bool (p).keep, .int .u8 (p).ttl, .int .u8 (p).proto, .int .u32 (p).src, .int .u32 (p).dst, .slice A1 n1 c1, .slice A2 n2 c2]), (.agg #[.int .u8 (S).tos, .int .u16 (S).id, .bool (S).keep, .int .u8 (S).ttl, .int .u8 (S).proto, .int .u32 (S).src, .int .u32 (S).dst, .slice B1 m1 d1, .slice B2 m2 d2])] W fun e w' => e = .returned (.bool true) ∧ Below W.heap.size W w' := fun B1 m1 d1 B2 m2 d2 W k j => alike_any p S hp hSo A1 n1 c1 A2 n2 c2 B1 m1 d1 B2 m2 d2 W k j (by omega) (by have := j.len; omega) b2 h0
  clear hs hb hf hdl hf' hdl' hQo hSo hSl hQl hoT hS hQ hU b1 b2 hE h0 hp ht l2
  obtain ⟨k, hk⟩ : ∃ k : Nat, w.heap.size = k := ⟨_, rfl⟩
  obtain ⟨w1, hw1⟩ : ∃ W, ((w.alloc (.cells #[.int .u8 (p).tos, .int .u16 (p).id, .bool (p).keep, .int .u8 (p).ttl, .int .u8 (p).proto, .int .u32 (p).src, .int .u32 (p).dst, .slice A1 n1 c1, .slice A2 n2 c2] 26)).alloc (.cells #[.int .u8 (t).proto, .int .u32 (t).src, .int .u32 (t).dst, .int .u16 (t).sp, .int .u16 (t).dp] 28)) = W := ⟨_, rfl⟩
  have P1 : Blk w1 k #[.int .u8 (p).tos, .int .u16 (p).id, .bool (p).keep, .int .u8 (p).ttl, .int .u8 (p).proto, .int .u32 (p).src, .int .u32 (p).dst, .slice A1 n1 c1, .slice A2 n2 c2] 26 := by rw [← hw1]; exact ((blk_new _ _ _ k (by simp [hk])).alloc _)
  have O1 : Blk w1 (k + 1) #[.int .u8 (t).proto, .int .u32 (t).src, .int .u32 (t).dst, .int .u16 (t).sp, .int .u16 (t).dp] 28 := by rw [← hw1]; exact (blk_new _ _ _ (k + 1) (by simp [hk]))
  have R1 : Below w.heap.size w w1 := by rw [← hw1]; (repeat (first | with_reducible exact Below.refl _ _ | with_reducible refine below_drew ?_ | with_reducible refine below_drewN ?_ _ | with_reducible refine below_alloc ?_ (Nat.le_refl _) _ | with_reducible refine Below.setCell ?_ (by first | exact Nat.le_refl _ | (simp only []; omega)) _ | with_reducible assumption))
  have Pc1 := P1.cell
  have Oc1 := O1.cell
  have Pl1 := P1.lt
  have Ol1 := O1.lt
  have x1 := (k1).below R1
  have y1 := (k2).below R1
  go_enter Try.func5, Try.ntmps5
  go_wp2_with (first
    | (go_at_call 10; ((with_reducible refine (ho w1 y1).mono ?_); rintro e u2 ⟨⟨rfl, hB2⟩⟩); (obtain ⟨w2, hw2⟩ : ∃ W, u2.alloc (.cells #[.int .u8 (U).proto, .int .u32 (U).src, .int .u32 (U).dst, .int .u16 (U).sp, .int .u16 (U).dp] 28) = W := ⟨_, rfl⟩); have V2 : Below u2.heap.size u2 w2 := (by rw [← hw2]; (repeat (first | with_reducible exact Below.refl _ _ | with_reducible refine below_drew ?_ | with_reducible refine below_drewN ?_ _ | with_reducible refine below_alloc ?_ (Nat.le_refl _) _ | with_reducible refine Below.setCell ?_ (by first | exact Nat.le_refl _ | (simp only []; omega)) _ | with_reducible assumption))); (obtain ⟨kG2, hkG2⟩ : ∃ k : Nat, u2.heap.size = k := ⟨_, rfl⟩); have G2 : Blk w2 kG2 #[.int .u8 (U).proto, .int .u32 (U).src, .int .u32 (U).dst, .int .u16 (U).sp, .int .u16 (U).dp] 28 := (by rw [← hw2]; exact blk_new u2 _ _ _ hkG2); have Gc2 := G2.cell; have T2 := below_then hB2 V2; have P2 := P1.below T2; have Pc2 := P2.cell; clear Pc1; have O2 := O1.below T2; have Oc2 := O2.cell; clear Oc1; have x2 := x1.below T2; have y2 := y1.below T2; have R2 := below_then R1 T2)
    | (go_at_call 7; ((with_reducible refine (hr w2 x2 y2).mono ?_); rintro e u3 ⟨⟨C1, e1, f1, C2, e2, f2, rfl, o1, o2, hB3⟩⟩); (obtain ⟨w3, hw3⟩ : ∃ W, u3.alloc (.cells #[.int .u8 (Q).tos, .int .u16 (Q).id, .bool (Q).keep, .int .u8 (Q).ttl, .int .u8 (Q).proto, .int .u32 (Q).src, .int .u32 (Q).dst, .slice C1 e1 f1, .slice C2 e2 f2] 26) = W := ⟨_, rfl⟩); have V3 : Below u3.heap.size u3 w3 := (by rw [← hw3]; (repeat (first | with_reducible exact Below.refl _ _ | with_reducible refine below_drew ?_ | with_reducible refine below_drewN ?_ _ | with_reducible refine below_alloc ?_ (Nat.le_refl _) _ | with_reducible refine Below.setCell ?_ (by first | exact Nat.le_refl _ | (simp only []; omega)) _ | with_reducible assumption))); (obtain ⟨kI3, hkI3⟩ : ∃ k : Nat, u3.heap.size = k := ⟨_, rfl⟩); have I3 : Blk w3 kI3 #[.int .u8 (Q).tos, .int .u16 (Q).id, .bool (Q).keep, .int .u8 (Q).ttl, .int .u8 (Q).proto, .int .u32 (Q).src, .int .u32 (Q).dst, .slice C1 e1 f1, .slice C2 e2 f2] 26 := (by rw [← hw3]; exact blk_new u3 _ _ _ hkI3); have Ic3 := I3.cell; have T3 := below_then hB3 V3; have z3 := (o2.bs).below V3; have v3 := (o1.bs).below V3; have P3 := P2.below T3; have Pc3 := P3.cell; clear Pc2; have O3 := O2.below T3; have Oc3 := O3.cell; clear Oc2; have G3 := G2.below T3; have Gc3 := G3.cell; clear Gc2; have x3 := x2.below T3; have y3 := y2.below T3; have R3 := below_then R2 T3)
    | (go_at_call 7; ((with_reducible refine (hs' w3 C1 e1 f1 C2 e2 f2 v3 z3).mono ?_); rintro e u4 ⟨⟨D1, g1, h1, D2, g2, h2, rfl, r1, r2, hB4⟩⟩); (obtain ⟨w4, hw4⟩ : ∃ W, u4.alloc (.cells #[.int .u8 (S).tos, .int .u16 (S).id, .bool (S).keep, .int .u8 (S).ttl, .int .u8 (S).proto, .int .u32 (S).src, .int .u32 (S).dst, .slice D1 g1 h1, .slice D2 g2 h2] 26) = W := ⟨_, rfl⟩); have V4 : Below u4.heap.size u4 w4 := (by rw [← hw4]; (repeat (first | with_reducible exact Below.refl _ _ | with_reducible refine below_drew ?_ | with_reducible refine below_drewN ?_ _ | with_reducible refine below_alloc ?_ (Nat.le_refl _) _ | with_reducible refine Below.setCell ?_ (by first | exact Nat.le_refl _ | (simp only []; omega)) _ | with_reducible assumption))); (obtain ⟨kJ4, hkJ4⟩ : ∃ k : Nat, u4.heap.size = k := ⟨_, rfl⟩); have J4 : Blk w4 kJ4 #[.int .u8 (S).tos, .int .u16 (S).id, .bool (S).keep, .int .u8 (S).ttl, .int .u8 (S).proto, .int .u32 (S).src, .int .u32 (S).dst, .slice D1 g1 h1, .slice D2 g2 h2] 26 := (by rw [← hw4]; exact blk_new u4 _ _ _ hkJ4); have Jc4 := J4.cell; have T4 := below_then hB4 V4; have a4 := (r2.bs).below V4; have P4 := P3.below T4; have Pc4 := P4.cell; clear Pc3; have O4 := O3.below T4; have Oc4 := O4.cell; clear Oc3; have G4 := G3.below T4; have Gc4 := G4.cell; clear Gc3; have I4 := I3.below T4; have Ic4 := I4.cell; clear Ic3; have x4 := x3.below T4; have y4 := y3.below T4; have z4 := z3.below T4; have v4 := v3.below T4; have R4 := below_then R3 T4)
    | (go_at_call 8; ((with_reducible refine (live10_any w4).mono ?_); rintro e w5 ⟨rfl, hB5⟩); have P5 := P4.below hB5; have Pc5 := P5.cell; clear Pc4; have O5 := O4.below hB5; have Oc5 := O5.cell; clear Oc4; have G5 := G4.below hB5; have Gc5 := G5.cell; clear Gc4; have I5 := I4.below hB5; have Ic5 := I5.cell; clear Ic4; have J5 := J4.below hB5; have Jc5 := J5.cell; clear Jc4; have x5 := x4.below hB5; have y5 := y4.below hB5; have z5 := z4.below hB5; have v5 := v4.below hB5; have a5 := a4.below hB5; have R5 := below_then R4 hB5)
    | (go_at_call 13; ((with_reducible refine (hal' D1 g1 h1 D2 g2 h2 w5 y5 a5).mono ?_); rintro e w6 ⟨rfl, hB6⟩); have P6 := P5.below hB6; have Pc6 := P6.cell; clear Pc5; have O6 := O5.below hB6; have Oc6 := O6.cell; clear Oc5; have G6 := G5.below hB6; have Gc6 := G6.cell; clear Gc5; have I6 := I5.below hB6; have Ic6 := I6.cell; clear Ic5; have J6 := J5.below hB6; have Jc6 := J6.cell; clear Jc5; have x6 := x5.below hB6; have y6 := y5.below hB6; have z6 := z5.below hB6; have v6 := v5.below hB6; have a6 := a5.below hB6; have R6 := below_then R5 hB6))
  go_ret
  exact ⟨rfl, R6⟩

theorem mangleTuple_walk (w : World) (p : Pkt) (hp : p.Ok) (A1 : Option Addr) (n1 c1 : Nat) (A2 : Option Addr) (n2 c2 : Nat) (k1 : Bs w A1 n1 c1 p.opt) (k2 : Bs w A2 n2 c2 p.dat) (z2 : n2 ≤ 140737488351232) (t : Tup) (ht : t.Ok) :
    Calls Try.prog 3 #[(.agg #[.int .u8 (p).tos, .int .u16 (p).id, .bool (p).keep, .int .u8 (p).ttl, .int .u8 (p).proto, .int .u32 (p).src, .int .u32 (p).dst, .slice A1 n1 c1, .slice A2 n2 c2]), (.agg #[.int .u8 (t).proto, .int .u32 (t).src, .int .u32 (t).dst, .int .u16 (t).sp, .int .u16 (t).dp])] w fun e w' => e = .returned (.bool true) ∧ Below w.heap.size w w' := by
  have hr := fun W k k' => rewrite_any p hp t ht A1 n1 c1 A2 n2 c2 W k k' z2
  have l2 := k2.len
  by_cases hE : rwE p t = 0
  case neg =>
    have hb := rw_bad hE
    have h0 : (rwE p t != 0) = true := by simpa using hE
    obtain ⟨F, hF⟩ : ∃ q, rwE p t = q := ⟨_, rfl⟩
    rw [hb, hF] at hr
    rw [hF] at h0
    have hr' : ∀ W, Bs W A1 n1 c1 p.opt → Bs W A2 n2 c2 p.dat → Calls Try.prog 7 #[(.agg #[.int .u8 (p).tos, .int .u16 (p).id, .bool (p).keep, .int .u8 (p).ttl, .int .u8 (p).proto, .int .u32 (p).src, .int .u32 (p).dst, .slice A1 n1 c1, .slice A2 n2 c2]), (.agg #[.int .u8 (t).proto, .int .u32 (t).src, .int .u32 (t).dst, .int .u16 (t).sp, .int .u16 (t).dp])] W fun e w' => ∃ C1 e1 f1 C2 e2 f2, e = .returned (.tuple #[.agg #[.int .u8 0, .int .u16 0, .bool false, .int .u8 0, .int .u8 0, .int .u32 0, .int .u32 0, .slice C1 e1 f1, .slice C2 e2 f2], .int .i64 F]) ∧ Bs w' C1 e1 f1 [] ∧ Bs w' C2 e2 f2 [] ∧ Below W.heap.size W w' := fun W k k' => by
      refine (hr W k k').mono fun e w' hq => ?_
      obtain ⟨C1, e1, f1, C2, e2, f2, rfl, h1, h2, h3⟩ := hq.out
      exact ⟨C1, e1, f1, C2, e2, f2, rfl, h1.bs, h2.bs, h3⟩
    have hsz : ∀ C1 e1 f1 C2 e2 f2 W, Bs W C1 e1 f1 [] → Bs W C2 e2 f2 [] → Calls Try.prog 9 #[.agg #[.int .u8 0, .int .u16 0, .bool false, .int .u8 0, .int .u8 0, .int .u32 0, .int .u32 0, .slice C1 e1 f1, .slice C2 e2 f2], .agg #[.int .u8 0, .int .u16 0, .bool false, .int .u8 0, .int .u8 0, .int .u32 0, .int .u32 0, .slice none 0 0, .slice none 0 0]] W fun e w' => e = .returned (.bool true) ∧ Below W.heap.size W w' := fun C1 e1 f1 C2 e2 f2 W a b => by
      have := rsame_any zP zP C1 e1 f1 C2 e2 f2 none 0 0 none 0 0 W a b (Bs.none_ _) (Bs.none_ _)
      rw [sameP_self] at this
      exact this
    clear hr hb hF hE hp ht l2
    obtain ⟨k, hk⟩ : ∃ k : Nat, w.heap.size = k := ⟨_, rfl⟩
    obtain ⟨w1, hw1⟩ : ∃ W, ((w.alloc (.cells #[.int .u8 (p).tos, .int .u16 (p).id, .bool (p).keep, .int .u8 (p).ttl, .int .u8 (p).proto, .int .u32 (p).src, .int .u32 (p).dst, .slice A1 n1 c1, .slice A2 n2 c2] 26)).alloc (.cells #[.int .u8 (t).proto, .int .u32 (t).src, .int .u32 (t).dst, .int .u16 (t).sp, .int .u16 (t).dp] 28)) = W := ⟨_, rfl⟩
    have P1 : Blk w1 k #[.int .u8 (p).tos, .int .u16 (p).id, .bool (p).keep, .int .u8 (p).ttl, .int .u8 (p).proto, .int .u32 (p).src, .int .u32 (p).dst, .slice A1 n1 c1, .slice A2 n2 c2] 26 := by rw [← hw1]; exact ((blk_new _ _ _ k (by simp [hk])).alloc _)
    have O1 : Blk w1 (k + 1) #[.int .u8 (t).proto, .int .u32 (t).src, .int .u32 (t).dst, .int .u16 (t).sp, .int .u16 (t).dp] 28 := by rw [← hw1]; exact (blk_new _ _ _ (k + 1) (by simp [hk]))
    have R1 : Below w.heap.size w w1 := by rw [← hw1]; (repeat (first | with_reducible exact Below.refl _ _ | with_reducible refine below_drew ?_ | with_reducible refine below_drewN ?_ _ | with_reducible refine below_alloc ?_ (Nat.le_refl _) _ | with_reducible refine Below.setCell ?_ (by first | exact Nat.le_refl _ | (simp only []; omega)) _ | with_reducible assumption))
    have Pc1 := P1.cell
    have Oc1 := O1.cell
    have Pl1 := P1.lt
    have Ol1 := O1.lt
    have x1 := (k1).below R1
    have y1 := (k2).below R1
    go_enter Try.func3, Try.ntmps3
    go_wp2_with (first
      | (go_at_call 7; ((with_reducible refine (hr' w1 x1 y1).mono ?_); rintro e u2 ⟨C1, e1, f1, C2, e2, f2, rfl, o1, o2, hB2⟩); (obtain ⟨w2, hw2⟩ : ∃ W, u2.alloc (.cells #[.int .u8 0, .int .u16 0, .bool false, .int .u8 0, .int .u8 0, .int .u32 0, .int .u32 0, .slice C1 e1 f1, .slice C2 e2 f2] 26) = W := ⟨_, rfl⟩); have V2 : Below u2.heap.size u2 w2 := (by rw [← hw2]; (repeat (first | with_reducible exact Below.refl _ _ | with_reducible refine below_drew ?_ | with_reducible refine below_drewN ?_ _ | with_reducible refine below_alloc ?_ (Nat.le_refl _) _ | with_reducible refine Below.setCell ?_ (by first | exact Nat.le_refl _ | (simp only []; omega)) _ | with_reducible assumption))); (obtain ⟨kI2, hkI2⟩ : ∃ k : Nat, u2.heap.size = k := ⟨_, rfl⟩); have I2 : Blk w2 kI2 #[.int .u8 0, .int .u16 0, .bool false, .int .u8 0, .int .u8 0, .int .u32 0, .int .u32 0, .slice C1 e1 f1, .slice C2 e2 f2] 26 := (by rw [← hw2]; exact blk_new u2 _ _ _ hkI2); have Ic2 := I2.cell; have T2 := below_then hB2 V2; have z2 := (o2).below V2; have v2 := (o1).below V2; have P2 := P1.below T2; have Pc2 := P2.cell; clear Pc1; have O2 := O1.below T2; have Oc2 := O2.cell; clear Oc1; have x2 := x1.below T2; have y2 := y1.below T2; have R2 := below_then R1 T2)
      | (go_at_call 8; ((with_reducible refine (live10_any w2).mono ?_); rintro e w3 ⟨rfl, hB3⟩); have P3 := P2.below hB3; have Pc3 := P3.cell; clear Pc2; have O3 := O2.below hB3; have Oc3 := O3.cell; clear Oc2; have I3 := I2.below hB3; have Ic3 := I3.cell; clear Ic2; have x3 := x2.below hB3; have y3 := y2.below hB3; have z3 := z2.below hB3; have v3 := v2.below hB3; have R3 := below_then R2 hB3)
      | (go_at_call 9; ((with_reducible refine (hsz C1 e1 f1 C2 e2 f2 w3 v3 z3).mono ?_); rintro e w4 ⟨rfl, hB4⟩); have P4 := P3.below hB4; have Pc4 := P4.cell; clear Pc3; have O4 := O3.below hB4; have Oc4 := O4.cell; clear Oc3; have I4 := I3.below hB4; have Ic4 := I4.cell; clear Ic3; have x4 := x3.below hB4; have y4 := y3.below hB4; have z4 := z3.below hB4; have v4 := v3.below hB4; have R4 := below_then R3 hB4))
    go_ret
    exact ⟨rfl, R4⟩

  have hb := rw_back hp ht hE
  obtain ⟨d, hf, hdl⟩ := hb.form
  have hQo : (rwP p t).Ok := by rw [hf]; exact ⟨hp.1, hp.2, hp.3, hp.4, ht.src, ht.dst⟩
  have hrt := hb.right
  have hQs : (rwP p t).dat.length ≤ 65535 := by
    unfold rightP at hrt
    simp only [Bool.and_eq_true, decide_eq_true_eq] at hrt
    omega
  have ho := fun W B1 m1 d1 B2 m2 d2 k h => rof_any (rwP p t) hQo B1 m1 d1 B2 m2 d2 W k h
  have hi := fun W B1 m1 d1 B2 m2 d2 k k' => rright_any (rwP p t) B1 m1 d1 B2 m2 d2 W k k'
  have htd := fun W => told_any t W
  rw [hb.e, hb.tt] at ho
  rw [hrt] at hi
  rw [hE] at hr
  have ho' : ∀ W B1 m1 d1 B2 m2 d2, Bs W B2 m2 d2 (rwP p t).dat → _ := fun W B1 m1 d1 B2 m2 d2 k => ho W B1 m1 d1 B2 m2 d2 k (by have := k.len; omega)
  rw [hf] at hr hi ho'
  obtain ⟨U, hU⟩ : ∃ q, toldT t = q := ⟨_, rfl⟩
  rw [hU] at ho' htd
  have l1 := k1.len
  clear ho hb hf hQo hrt hQs hU hE hp ht
  obtain ⟨k, hk⟩ : ∃ k : Nat, w.heap.size = k := ⟨_, rfl⟩
  obtain ⟨w1, hw1⟩ : ∃ W, ((w.alloc (.cells #[.int .u8 (p).tos, .int .u16 (p).id, .bool (p).keep, .int .u8 (p).ttl, .int .u8 (p).proto, .int .u32 (p).src, .int .u32 (p).dst, .slice A1 n1 c1, .slice A2 n2 c2] 26)).alloc (.cells #[.int .u8 (t).proto, .int .u32 (t).src, .int .u32 (t).dst, .int .u16 (t).sp, .int .u16 (t).dp] 28)) = W := ⟨_, rfl⟩
  have P1 : Blk w1 k #[.int .u8 (p).tos, .int .u16 (p).id, .bool (p).keep, .int .u8 (p).ttl, .int .u8 (p).proto, .int .u32 (p).src, .int .u32 (p).dst, .slice A1 n1 c1, .slice A2 n2 c2] 26 := by rw [← hw1]; exact ((blk_new _ _ _ k (by simp [hk])).alloc _)
  have O1 : Blk w1 (k + 1) #[.int .u8 (t).proto, .int .u32 (t).src, .int .u32 (t).dst, .int .u16 (t).sp, .int .u16 (t).dp] 28 := by rw [← hw1]; exact (blk_new _ _ _ (k + 1) (by simp [hk]))
  have R1 : Below w.heap.size w w1 := by rw [← hw1]; (repeat (first | with_reducible exact Below.refl _ _ | with_reducible refine below_drew ?_ | with_reducible refine below_drewN ?_ _ | with_reducible refine below_alloc ?_ (Nat.le_refl _) _ | with_reducible refine Below.setCell ?_ (by first | exact Nat.le_refl _ | (simp only []; omega)) _ | with_reducible assumption))
  have Pc1 := P1.cell
  have Oc1 := O1.cell
  have Pl1 := P1.lt
  have Ol1 := O1.lt
  have x1 := (k1).below R1
  have y1 := (k2).below R1
  have hcv : ∀ W, Bs W A1 n1 c1 p.opt → (convert 24 9 (.slice A1 n1 c1)).run Try.prog W = .ok (.string (str p.opt)) W := fun W h => cv h
  go_enter Try.func3, Try.ntmps3
  go_wp2_with (first
    | (go_at_call 7; ((with_reducible refine (hr w1 x1 y1).mono ?_); rintro e u2 ⟨⟨C1, e1, f1, C2, e2, f2, rfl, o1, o2, hB2⟩⟩); (obtain ⟨w2, hw2⟩ : ∃ W, u2.alloc (.cells #[.int .u8 p.tos, .int .u16 p.id, .bool p.keep, .int .u8 p.ttl, .int .u8 p.proto, .int .u32 t.src, .int .u32 t.dst, .slice C1 e1 f1, .slice C2 e2 f2] 26) = W := ⟨_, rfl⟩); have V2 : Below u2.heap.size u2 w2 := (by rw [← hw2]; (repeat (first | with_reducible exact Below.refl _ _ | with_reducible refine below_drew ?_ | with_reducible refine below_drewN ?_ _ | with_reducible refine below_alloc ?_ (Nat.le_refl _) _ | with_reducible refine Below.setCell ?_ (by first | exact Nat.le_refl _ | (simp only []; omega)) _ | with_reducible assumption))); (obtain ⟨kI2, hkI2⟩ : ∃ k : Nat, u2.heap.size = k := ⟨_, rfl⟩); have I2 : Blk w2 kI2 #[.int .u8 p.tos, .int .u16 p.id, .bool p.keep, .int .u8 p.ttl, .int .u8 p.proto, .int .u32 t.src, .int .u32 t.dst, .slice C1 e1 f1, .slice C2 e2 f2] 26 := (by rw [← hw2]; exact blk_new u2 _ _ _ hkI2); have Ic2 := I2.cell; have T2 := below_then hB2 V2; have z2 := (o2.bs).below V2; have v2 := (o1.bs).below V2; have P2 := P1.below T2; have Pc2 := P2.cell; clear Pc1; have O2 := O1.below T2; have Oc2 := O2.cell; clear Oc1; have x2 := x1.below T2; have y2 := y1.below T2; have R2 := below_then R1 T2; have hle : (e2 : Int) ≤ n2 := (by have h1 := z2.len; have h2 := l2; have h3 := hdl; simp only at h1; omega))
    | (go_at_call 10; ((with_reducible refine (ho' w2 C1 e1 f1 C2 e2 f2 z2).mono ?_); rintro e u3 ⟨⟨rfl, hB3⟩⟩); (obtain ⟨w3, hw3⟩ : ∃ W, u3.alloc (.cells #[.int .u8 (U).proto, .int .u32 (U).src, .int .u32 (U).dst, .int .u16 (U).sp, .int .u16 (U).dp] 28) = W := ⟨_, rfl⟩); have V3 : Below u3.heap.size u3 w3 := (by rw [← hw3]; (repeat (first | with_reducible exact Below.refl _ _ | with_reducible refine below_drew ?_ | with_reducible refine below_drewN ?_ _ | with_reducible refine below_alloc ?_ (Nat.le_refl _) _ | with_reducible refine Below.setCell ?_ (by first | exact Nat.le_refl _ | (simp only []; omega)) _ | with_reducible assumption))); (obtain ⟨kG3, hkG3⟩ : ∃ k : Nat, u3.heap.size = k := ⟨_, rfl⟩); have G3 : Blk w3 kG3 #[.int .u8 (U).proto, .int .u32 (U).src, .int .u32 (U).dst, .int .u16 (U).sp, .int .u16 (U).dp] 28 := (by rw [← hw3]; exact blk_new u3 _ _ _ hkG3); have Gc3 := G3.cell; have T3 := below_then hB3 V3; have P3 := P2.below T3; have Pc3 := P3.cell; clear Pc2; have O3 := O2.below T3; have Oc3 := O3.cell; clear Oc2; have I3 := I2.below T3; have Ic3 := I3.cell; clear Ic2; have x3 := x2.below T3; have y3 := y2.below T3; have z3 := z2.below T3; have v3 := v2.below T3; have R3 := below_then R2 T3))
  refine region_txt 53 (by kernel_rfl) (by kernel_rfl) ?_; (iterate 53 (first | (apply ObsK.skip (by rfl)) | (apply ObsK.v (by rfl); (intro wo hT; (repeat (first | (intro _ _ k; try have hcv := cv k))); (have ic := (I3.below hT).cell; have pc := (P3.below hT).cell; have oc := (O3.below hT).cell; have gc := (G3.below hT).cell; have vo := v3.below hT; have zo := z3.below hT; have cvx := cv (x3.below hT); have cvv := cv vo); refine Goes.mk ?_; go_simp; first | exact goes_v | exact goes_b (by assumption) | (refine goes_enter ?_; first | (go_at_call 8; ((with_reducible refine (live10_any wo).mono ?_); rintro e w5 ⟨rfl, hD5⟩); exact ret_v hD5) | (go_at_call 11; ((with_reducible refine (htd wo).mono ?_); rintro e w5 ⟨rfl, hD5⟩); exact ret_v hD5) | (go_at_call 12; ((with_reducible refine (hi wo C1 e1 f1 C2 e2 f2 vo zo).mono ?_); rintro e w5 ⟨rfl, hD5⟩); exact ret_v hD5)))) | (apply ObsK.b (by rfl); (intro wo hT; (repeat (first | (intro _ _ k; try have hcv := cv k))); (have ic := (I3.below hT).cell; have pc := (P3.below hT).cell; have oc := (O3.below hT).cell; have gc := (G3.below hT).cell; have vo := v3.below hT; have zo := z3.below hT; have cvx := cv (x3.below hT); have cvv := cv vo); refine Goes.mk ?_; go_simp; first | exact goes_v | exact goes_b (by assumption) | (refine goes_enter ?_; first | (go_at_call 8; ((with_reducible refine (live10_any wo).mono ?_); rintro e w5 ⟨rfl, hD5⟩); exact ret_v hD5) | (go_at_call 11; ((with_reducible refine (htd wo).mono ?_); rintro e w5 ⟨rfl, hD5⟩); exact ret_v hD5) | (go_at_call 12; ((with_reducible refine (hi wo C1 e1 f1 C2 e2 f2 vo zo).mono ?_); rintro e w5 ⟨rfl, hD5⟩); exact ret_v hD5)))))); refine ObsK.nil ?_; intro wz hBz; simp only [finOn, List.drop_succ_cons, List.drop_zero, List.drop_nil]
  go_simp
  go_wp2_with fail
  go_ret
  exact ⟨rfl, below_then R3 hBz⟩
end Go.Proofs.Ytjhpmeagopdaiaa

namespace Go.Proofs.Ytjhpmeagopdaiaa
open Go.ChangeShapes Go.WideShapes Go.ChangeAt Go.RowKit
set_option linter.unusedVariables false

theorem own_knob : ownKnob Try.prog.godebug = none := by kernel_rfl
theorem laid_out : laidOutB Try.prog = true := by kernel_rfl
section
variable {H : Type} {enc : TypeId × Value → H} {P : Program} {w : World} {base : Nat} {held : Bool} {spare : Nat → Bool}
theorem open_bs {t e : TypeId} {fuel : Nat} {v : Value} {x : DataW H × List MemPlace} (ht : P.underlying t = some (.slice e)) (he : P.underlying e = some (.int .u8)) (hc : P.cellsOf e = 1)
    (h : DataW.trod enc P w base spare held fuel t [v] = some x) :
    ∃ A n c l, v = .slice A n c ∧ (n ≤ 200000000000000 → Bs w A n c l) ∧ ((x.1 = .nil ∧ n = 0) ∨ ∃ es sp, x.1 = .slice es sp ∧ es.length = n) := by
  rcases open_ints ht he hc h with ⟨hcs, rfl⟩ | ⟨a, len, cap, zs, hcs, _, hl, hm, hz, rfl, hcell, hwz⟩
  · simp only [List.cons.injEq, and_true] at hcs
    subst hcs
    exact ⟨none, 0, 0, [], rfl, fun _ => Bs.none_ w, .inl ⟨rfl, rfl⟩⟩
  · simp only [List.cons.injEq, and_true] at hcs
    subst hcs
    have hzl : len ≤ zs.length := by rw [hz]; split <;> omega
    have hlen : ((zs.take len).map ub).length = len := by simp; omega
    refine ⟨some a, len, cap, (zs.take len).map ub, rfl, fun hn => ⟨hlen, hl, hn, (fun h => by cases h), fun h0 => ?_⟩, .inr ⟨_, _, rfl, by simp [lits]; omega⟩⟩
    obtain ⟨b, off, spot⟩ := a
    have hc0 := hcell 0 (by omega)
    have hspot : spot = none := by simpa [Addr.add] using World.cell?_spot hc0
    subst hspot
    refine ⟨b, off, rfl, fun j hj => ?_⟩
    have h1 := hcell j (by omega)
    have ha : (⟨b, off, none⟩ : Addr).add j = ⟨b, off + j, none⟩ := by unfold Addr.add; split <;> simp_all
    rw [ha] at h1
    rw [h1]
    have hb : 0 ≤ zs.getD j 0 ∧ zs.getD j 0 ≤ 255 := by
      have hmem : zs.getD j 0 ∈ zs := by
        rw [List.getD_eq_getElem?_getD, List.getElem?_eq_getElem (by omega)]
        exact List.getElem_mem _
      simpa [Lit.wf, IntKind.min, IntKind.max, IntKind.signed, IntKind.bits] using hwz _ hmem
    have e : zs.getD j 0 = bt ((zs.take len).map ub) j := by
      have hj' : j < zs.length := by omega
      have e1 : zs.getD j 0 = zs[j] := by rw [List.getD_eq_getElem?_getD, List.getElem?_eq_getElem hj']; rfl
      have e2 : ((zs.take len).map ub).getD j 0 = ub zs[j] := by
        rw [List.getD_eq_getElem?_getD, List.getElem?_map, List.getElem?_take, if_pos hj, List.getElem?_eq_getElem hj']
        rfl
      unfold bt
      rw [e2, ub_val, e1]
      rw [e1] at hb
      omega
    rw [e]

theorem args_stay : ∀ {ts : List TypeId} {vs : List Value} {ds : List (DataW H)} {ps : List MemPlace} {W W' : World}, laidOutB P = true → ts.all (fun t => P.readableRec t && decide (t < P.types.size)) = true →
    DataW.TrodAll enc P W 0 (fun _ => true) true ts vs ds ps → Below W.heap.size W W' → DataW.TrodAll enc P W' 0 (fun b => decide (b < W.heap.size)) true ts vs ds ps
  | [], vs, ds, ps, W, W', _, _, h, _ => by
    obtain ⟨rfl, rfl, rfl⟩ := trodAll_nil h
    exact trodAll_mk0
  | t :: ts, vs, ds, ps, W, W', hl, hr, h, hb => by
    simp only [List.all_cons, Bool.and_eq_true, decide_eq_true_eq] at hr
    obtain ⟨v, vs', d, ds', p, q, rfl, rfl, rfl, h1, h2⟩ := trodAll_cons h
    have hlt : ∀ x ∈ p, x.block < W.heap.size := by obtain ⟨m, hm⟩ := h1; exact DataW.trod_lt m _ _ _ hm
    exact trodAll_cons_mk (Below.trod hl hr.1.1 hr.1.2 h1 hb hlt) (args_stay hl (by simpa using hr.2) h2 hb)
theorem law_post {f : Func} {s : ChangeSpec} {W W' : World} {args : Array Value} {ds : List (DataW H)} {before : List MemPlace} {tb : TypeId} (hb' : P.underlying tb = some .bool) (hres : f.resultTypes = #[tb]) (hl : laidOutB P = true)
    (hr : f.params.toList.all (fun t => P.readableRec t && decide (t < P.types.size)) = true) (hvars : s.vars = [])
    (hfn : s.fn H (ds ++ []) = { results := [.lit (.bool true)], args := ds }) (hW : DataW.Whole enc P f.params.toList s.vars false W args.toList ds [] before) (hb : Below W.heap.size W W') :
    s.post enc P f false true false false W args (.bool true) W' := by
  have hW2 := hW
  obtain ⟨p, q, hA, hV, rfl, hfz, hnd⟩ := hW
  rw [hvars] at hV
  obtain ⟨_, rfl⟩ := trodVars_none hV
  refine ⟨_, _, _, [], p, [], hW2, ?_, ?_, ?_, hb.frame _, fun h => by cases h⟩
  · rw [hfn, hres]
    exact trodAll_mk1 (shut_bool hb' _)
  · rw [hfn]
    exact args_stay hl hr hA hb
  · rw [hfn, hvars]
    rfl
end
end Go.Proofs.Ytjhpmeagopdaiaa

namespace Go.Proofs.Ytjhpmeagopdaiaa
open Go.ChangeShapes Go.WideShapes Go.ChangeAt Go.RowKit Go.Deep
set_option linter.unusedVariables false
set_option maxRecDepth 100000

section
variable {H : Type} {enc : TypeId × Value → H} {P : Program} {w : World} {base : Nat} {held : Bool} {spare : Nat → Bool}
theorem open_struct {r : Reach} {b0 : Nat} {t : TypeId} {fs : Array Field} {v : Value} {d : DataW H} {ps : List MemPlace} (hs : P.underlying t = some (.struct fs)) (hone : oneCellFields P fs = true)
    (hv : Value.okWide P w r b0 t v) (h : DataW.Trod enc P w base spare held t v d ps) :
    ∃ (cs : List Value) (xs : List (DataW H × List MemPlace)) (n : Nat), v = .agg cs.toArray ∧ cs.length = P.cellsOf t ∧ d = .agg (xs.map (·.1)) ∧ xs.length = fs.size ∧
      ∀ i f, fs[i]? = some f → DataW.trod enc P w base spare held n f.type ((cs.drop i).take 1) = xs[i]? := by
  obtain ⟨cs, rfl, hsz⟩ := okWide_struct hs hv
  obtain ⟨fuel, hf⟩ := h
  obtain ⟨xs, n, _, hx, hl, hxl, hi⟩ := DataW.trod_struct hs hf
  simp only [Prod.mk.injEq] at hx
  refine ⟨cs.toList, xs, n, by simp, by simpa using hsz, hx.1, hxl, fun i f hfi => ?_⟩
  have h1 := hi i f hfi
  obtain ⟨o, k⟩ := hone_of hone i f hfi
  simpa [Value.cells, o, k] using h1
theorem list9 {α : Type} {l : List α} (h : l.length = 9) : ∃ a b c d e f g i j, l = [a, b, c, d, e, f, g, i, j] := by
  match l, h with
  | [a, b, c, d, e, f, g, i, j], _ => exact ⟨a, b, c, d, e, f, g, i, j, rfl⟩
theorem trod_byte {t : TypeId} {n : Nat} {v : Value} {y : DataW H × List MemPlace} (ht : P.underlying t = some (.int .u8)) (h : DataW.trod enc P w base spare held n t [v] = some y) : ∃ a, v = .int .u8 a ∧ 0 ≤ a ∧ a ≤ 255 := by
  obtain ⟨a, e, -, hw⟩ := DataW.trod_int ht h
  injection e with e
  exact ⟨a, e, by simpa [Lit.wf, IntKind.min, IntKind.max, IntKind.signed, IntKind.bits] using hw⟩
theorem trod_u16 {t : TypeId} {n : Nat} {v : Value} {y : DataW H × List MemPlace} (ht : P.underlying t = some (.int .u16)) (h : DataW.trod enc P w base spare held n t [v] = some y) : ∃ a, v = .int .u16 a ∧ 0 ≤ a ∧ a ≤ 65535 := by
  obtain ⟨a, e, -, hw⟩ := DataW.trod_int ht h
  injection e with e
  exact ⟨a, e, by simpa [Lit.wf, IntKind.min, IntKind.max, IntKind.signed, IntKind.bits] using hw⟩
theorem trod_u32 {t : TypeId} {n : Nat} {v : Value} {y : DataW H × List MemPlace} (ht : P.underlying t = some (.int .u32)) (h : DataW.trod enc P w base spare held n t [v] = some y) : ∃ a, v = .int .u32 a ∧ 0 ≤ a ∧ a ≤ 4294967295 := by
  obtain ⟨a, e, -, hw⟩ := DataW.trod_int ht h
  injection e with e
  exact ⟨a, e, by simpa [Lit.wf, IntKind.min, IntKind.max, IntKind.signed, IntKind.bits] using hw⟩
theorem trod_yes {t : TypeId} {n : Nat} {v : Value} {y : DataW H × List MemPlace} (ht : P.underlying t = some .bool) (h : DataW.trod enc P w base spare held n t [v] = some y) : ∃ b, v = .bool b := by
  obtain ⟨b, e, -⟩ := DataW.trod_bool ht h
  injection e with e
  exact ⟨b, e⟩
theorem weights_field {t : TypeId} {fs : Array Field} {parts : List (DataW H)} {j : Nat} {f : Field} {y : DataW H} (hs : P.underlying t = some (.struct fs)) (hsz : ∀ m ∈ (DataW.agg parts).weights P t, m ≤ reachBytes) (hf : fs[j]? = some f) (hy : parts[j]? = some y) :
    ∀ m ∈ y.weights P f.type, m ≤ reachBytes := by
  intro m hm
  refine hsz m ?_
  rw [DataW.weights, hs]
  exact DataW.weights_mem_each (j := j) (by simp [hf]) hy m hm
end
section
variable {H : Type} {enc : TypeId × Value → H} {w : World} {base : Nat} {held : Bool} {spare : Nat → Bool}
end
end Go.Proofs.Ytjhpmeagopdaiaa

namespace Go.Proofs.Ytjhpmeagopdaiaa
open Go.ChangeShapes Go.WideShapes Go.ChangeAt Go.RowKit Go.Deep
set_option linter.unusedVariables false

section
variable {H : Type} {enc : TypeId × Value → H} {P : Program} {w : World} {base : Nat} {held : Bool} {spare : Nat → Bool}
theorem slice_smallT {t e : TypeId} {n : Nat} {y : DataW H} (ht : P.underlying t = some (.slice e)) (hb : P.bytesOf e = 1) (hw : ∀ m ∈ y.weights P t, m ≤ reachBytes) (hd : (y = .nil ∧ n = 0) ∨ ∃ es sp, y = .slice es sp ∧ es.length = n) : n ≤ 140737488351232 := by
  rcases hd with ⟨_, h⟩ | ⟨es, sp, rfl, hn⟩
  · omega
  · have h1 := hw ((es.length + sp.length) * P.bytesOf e) (by simp [DataW.weights, ht])
    rw [hb] at h1
    simp only [reachBytes] at h1
    omega
theorem trod_bytesT {t e : TypeId} {n : Nat} {v : Value} {y : DataW H × List MemPlace} (ht : P.underlying t = some (.slice e)) (he : P.underlying e = some (.int .u8)) (hc : P.cellsOf e = 1) (hb : P.bytesOf e = 1)
    (hw : ∀ m ∈ y.1.weights P t, m ≤ reachBytes) (h : DataW.trod enc P w base spare held n t [v] = some y) : ∃ A n c l, v = .slice A n c ∧ Bs w A n c l ∧ n ≤ 140737488351232 := by
  obtain ⟨A, n, c, l, hv, hbs, hd⟩ := open_bs ht he hc h
  have hs := slice_smallT ht hb hw hd
  exact ⟨A, n, c, l, hv, hbs (by omega), hs⟩
end
end Go.Proofs.Ytjhpmeagopdaiaa

namespace Go.Proofs.Ytjhpmeagopdaiaa
open Go.ChangeShapes Go.WideShapes Go.ChangeAt Go.RowKit Go.Deep
set_option linter.unusedVariables false
set_option maxRecDepth 100000

section
variable {H : Type} {enc : TypeId × Value → H} {w : World} {base : Nat} {held : Bool} {spare : Nat → Bool}
end
end Go.Proofs.Ytjhpmeagopdaiaa

namespace Go.Proofs.Ytjhpmeagopdaiaa
open Go.ChangeShapes Go.WideShapes Go.ChangeAt Go.RowKit Go.Deep
set_option linter.unusedVariables false
set_option maxRecDepth 100000

section
variable {H : Type} {enc : TypeId × Value → H} {w : World} {base : Nat} {held : Bool} {spare : Nat → Bool}
theorem list5 {α : Type} {l : List α} (h : l.length = 5) : ∃ a b c d e, l = [a, b, c, d, e] := by
  match l, h with
  | [a, b, c, d, e], _ => exact ⟨a, b, c, d, e, rfl⟩
theorem open_tup {r : Reach} {b0 : Nat} {v : Value} {d : DataW H} {ps : List MemPlace} (hval : Value.okWide Try.prog w r b0 28 v) (hd : DataW.Trod enc Try.prog w base spare held 28 v d ps)
    (hsz : ∀ m ∈ d.weights Try.prog 28, m ≤ reachBytes) :
    ∃ (t : Tup), v = (.agg #[.int .u8 (t).proto, .int .u32 (t).src, .int .u32 (t).dst, .int .u16 (t).sp, .int .u16 (t).dp]) ∧ t.Ok := by
  have hu := Try.underlying28
  obtain ⟨cs, xs, n, rfl, hcl, rfl, hxl, hi⟩ := open_struct hu (by kernel_rfl) hval hd
  rw [show (Try.prog.cellsOf 28) = 5 from by kernel_rfl] at hcl
  obtain ⟨v0, v1, v2, v3, v4, rfl⟩ := list5 hcl
  obtain ⟨y0, y1, y2, y3, y4, rfl⟩ := list5 (by simpa using hxl)
  obtain ⟨a0, rfl, b0l, b0h⟩ := trod_byte (t := 5) Try.underlying5 (by simpa using hi 0 _ rfl)
  obtain ⟨a1, rfl, b1l, b1h⟩ := trod_u32 (t := 23) Try.underlying23 (by simpa using hi 1 _ rfl)
  obtain ⟨a2, rfl, b2l, b2h⟩ := trod_u32 (t := 23) Try.underlying23 (by simpa using hi 2 _ rfl)
  obtain ⟨a3, rfl, b3l, b3h⟩ := trod_u16 (t := 22) Try.underlying22 (by simpa using hi 3 _ rfl)
  obtain ⟨a4, rfl, b4l, b4h⟩ := trod_u16 (t := 22) Try.underlying22 (by simpa using hi 4 _ rfl)
  exact ⟨⟨a0, a1, a2, a3, a4⟩, rfl, ⟨⟨b0l, b0h⟩, ⟨b1l, b1h⟩, ⟨b2l, b2h⟩, ⟨b3l, b3h⟩, ⟨b4l, b4h⟩⟩⟩
theorem open_tupU {r : Reach} {b0 : Nat} {v : Value} {d : DataW H} {ps : List MemPlace} (hval : Value.okWide Try.prog w r b0 28 v) (hd : DataW.Trod enc Try.prog w base spare held 28 v d ps) :
    ∃ (t : Tup), v = (.agg #[.int .u8 (t).proto, .int .u32 (t).src, .int .u32 (t).dst, .int .u16 (t).sp, .int .u16 (t).dp]) ∧ t.Ok := by
  have hu := Try.underlying28
  obtain ⟨cs, xs, n, rfl, hcl, rfl, hxl, hi⟩ := open_struct hu (by kernel_rfl) hval hd
  rw [show (Try.prog.cellsOf 28) = 5 from by kernel_rfl] at hcl
  obtain ⟨v0, v1, v2, v3, v4, rfl⟩ := list5 hcl
  obtain ⟨y0, y1, y2, y3, y4, rfl⟩ := list5 (by simpa using hxl)
  obtain ⟨a0, rfl, b0l, b0h⟩ := trod_byte (t := 5) Try.underlying5 (by simpa using hi 0 _ rfl)
  obtain ⟨a1, rfl, b1l, b1h⟩ := trod_u32 (t := 23) Try.underlying23 (by simpa using hi 1 _ rfl)
  obtain ⟨a2, rfl, b2l, b2h⟩ := trod_u32 (t := 23) Try.underlying23 (by simpa using hi 2 _ rfl)
  obtain ⟨a3, rfl, b3l, b3h⟩ := trod_u16 (t := 22) Try.underlying22 (by simpa using hi 3 _ rfl)
  obtain ⟨a4, rfl, b4l, b4h⟩ := trod_u16 (t := 22) Try.underlying22 (by simpa using hi 4 _ rfl)
  exact ⟨⟨a0, a1, a2, a3, a4⟩, rfl, ⟨⟨b0l, b0h⟩, ⟨b1l, b1h⟩, ⟨b2l, b2h⟩, ⟨b3l, b3h⟩, ⟨b4l, b4h⟩⟩⟩
end
end Go.Proofs.Ytjhpmeagopdaiaa

namespace Go.Proofs.Ytjhpmeagopdaiaa
open Go.ChangeShapes Go.WideShapes Go.ChangeAt Go.RowKit Go.Deep
set_option linter.unusedVariables false
set_option maxRecDepth 100000

section
variable {H : Type} {enc : TypeId × Value → H} {w : World} {base : Nat} {held : Bool} {spare : Nat → Bool}
theorem open_pktM {r : Reach} {b0 : Nat} {v : Value} {d : DataW H} {ps : List MemPlace} (hval : Value.okWide Try.prog w r b0 26 v) (hd : DataW.Trod enc Try.prog w base spare held 26 v d ps)
    (hsz : ∀ m ∈ d.weights Try.prog 26, m ≤ reachBytes) :
    ∃ (p : Pkt) (A1 : Option Addr) (n1 c1 : Nat) (A2 : Option Addr) (n2 c2 : Nat), v = (.agg #[.int .u8 (p).tos, .int .u16 (p).id, .bool (p).keep, .int .u8 (p).ttl, .int .u8 (p).proto, .int .u32 (p).src, .int .u32 (p).dst, .slice A1 n1 c1, .slice A2 n2 c2]) ∧ p.Ok ∧ Bs w A1 n1 c1 p.opt ∧ Bs w A2 n2 c2 p.dat ∧ n1 ≤ 140737488351232 ∧ n2 ≤ 140737488351232 := by
  have hu := Try.underlying26
  obtain ⟨cs, xs, n, rfl, hcl, rfl, hxl, hi⟩ := open_struct hu (by kernel_rfl) hval hd
  rw [show (Try.prog.cellsOf 26) = 9 from by kernel_rfl] at hcl
  obtain ⟨v0, v1, v2, v3, v4, v5, v6, v7, v8, rfl⟩ := list9 hcl
  obtain ⟨y0, y1, y2, y3, y4, y5, y6, y7, y8, rfl⟩ := list9 (by simpa using hxl)
  obtain ⟨a0, rfl, b0l, b0h⟩ := trod_byte (t := 5) Try.underlying5 (by simpa using hi 0 _ rfl)
  obtain ⟨a1, rfl, b1l, b1h⟩ := trod_u16 (t := 22) Try.underlying22 (by simpa using hi 1 _ rfl)
  obtain ⟨a2, rfl⟩ := trod_yes (t := 4) Try.underlying4 (by simpa using hi 2 _ rfl)
  obtain ⟨a3, rfl, b3l, b3h⟩ := trod_byte (t := 5) Try.underlying5 (by simpa using hi 3 _ rfl)
  obtain ⟨a4, rfl, b4l, b4h⟩ := trod_byte (t := 5) Try.underlying5 (by simpa using hi 4 _ rfl)
  obtain ⟨a5, rfl, b5l, b5h⟩ := trod_u32 (t := 23) Try.underlying23 (by simpa using hi 5 _ rfl)
  obtain ⟨a6, rfl, b6l, b6h⟩ := trod_u32 (t := 23) Try.underlying23 (by simpa using hi 6 _ rfl)
  obtain ⟨A1, n1, c1, l1, rfl, k1, h1⟩ := trod_bytesT (t := 24) Try.underlying24 Try.underlying5 (by kernel_rfl) (by kernel_rfl) (weights_field (j := 7) (y := y7.1) hu hsz rfl (by simp)) (by simpa using hi 7 _ rfl)
  obtain ⟨A2, n2, c2, l2, rfl, k2, h2⟩ := trod_bytesT (t := 24) Try.underlying24 Try.underlying5 (by kernel_rfl) (by kernel_rfl) (weights_field (j := 8) (y := y8.1) hu hsz rfl (by simp)) (by simpa using hi 8 _ rfl)
  exact ⟨⟨a0, a1, a2, a3, a4, a5, a6, l1, l2⟩, A1, n1, c1, A2, n2, c2, rfl, ⟨⟨b0l, b0h⟩, ⟨b1l, b1h⟩, ⟨b3l, b3h⟩, ⟨b4l, b4h⟩, ⟨b5l, b5h⟩, ⟨b6l, b6h⟩⟩, k1, k2, h1, h2⟩
end
end Go.Proofs.Ytjhpmeagopdaiaa

namespace Go.Proofs.Ytjhpmeagopdaiaa.bulks

theorem one_le {H : Type} (d : DataW H) : 1 ≤ Rows.uptoBulk d := by
  cases d with
  | lit l => cases l <;> simp [Rows.uptoBulk]
  | nil => simp [Rows.uptoBulk]
  | ptr d => simp [Rows.uptoBulk]
  | slice elems spare => simp [Rows.uptoBulk]
  | agg parts => simp [Rows.uptoBulk]
  | iface t d => simp [Rows.uptoBulk]
  | map entries => simp [Rows.uptoBulk]
  | held h => simp [Rows.uptoBulk]

theorem part_le {H : Type} {d : DataW H} {l : List (DataW H)} (h : d ∈ l) : Rows.uptoBulk d ≤ Rows.uptoBulkAll l := by
  induction l with
  | nil => cases h
  | cons x r ih =>
    simp only [Rows.uptoBulkAll]
    cases List.mem_cons.1 h with
    | inl e => subst e; omega
    | inr e => have := ih e; omega

theorem length_le {H : Type} (l : List (DataW H)) : l.length ≤ Rows.uptoBulkAll l := by
  induction l with
  | nil => simp [Rows.uptoBulkAll]
  | cons x r ih => have := one_le x; simp only [Rows.uptoBulkAll, List.length_cons]; omega

theorem slice_le {H : Type} (elems spare : List (DataW H)) : elems.length + spare.length + 1 ≤ Rows.uptoBulk (.slice elems spare) := by
  have h1 := length_le elems
  have h2 := length_le spare
  simp only [Rows.uptoBulk]
  omega
theorem bound {H : Type} {l : List (DataW H)} (hk : Rows.uptoSmall H l = true) : Rows.uptoBulkAll l ≤ 1048576 := by
  simpa [Rows.uptoSmall] using hk

end Go.Proofs.Ytjhpmeagopdaiaa.bulks

namespace Go.Proofs.Ytjhpmeagopdaiaa
open Go.ChangeShapes Go.WideShapes Go.ChangeAt Go.RowKit Go.Deep
set_option linter.unusedVariables false
set_option maxRecDepth 100000

section
variable {H : Type} {enc : TypeId × Value → H} {P : Program} {w : World} {base : Nat} {held : Bool} {spare : Nat → Bool}
theorem trod_bytesU {t e : TypeId} {n N : Nat} {v : Value} {y : DataW H × List MemPlace} (ht : P.underlying t = some (.slice e)) (he : P.underlying e = some (.int .u8)) (hc : P.cellsOf e = 1) (hN : N ≤ 1048576)
    (hb : Rows.uptoBulk y.1 ≤ N) (h : DataW.trod enc P w base spare held n t [v] = some y) : ∃ A n c l, v = .slice A n c ∧ Bs w A n c l ∧ n ≤ N := by
  obtain ⟨A, n, c, l, hv, hbs, hd⟩ := open_bs ht he hc h
  have hn : n ≤ N := by
    rcases hd with ⟨_, h⟩ | ⟨es, sp, hx, hl⟩
    · omega
    · rw [hx] at hb
      have := bulks.slice_le es sp
      omega
  exact ⟨A, n, c, l, hv, hbs (by omega), hn⟩
end
section
variable {H : Type} {enc : TypeId × Value → H} {w : World} {base : Nat} {held : Bool} {spare : Nat → Bool}
theorem open_pktU {r : Reach} {b0 : Nat} {v : Value} {d : DataW H} {ps : List MemPlace} (hval : Value.okWide Try.prog w r b0 26 v) (hd : DataW.Trod enc Try.prog w base spare held 26 v d ps)
    (hb : Rows.uptoBulk d ≤ 1048576) :
    ∃ (p : Pkt) (A1 : Option Addr) (n1 c1 : Nat) (A2 : Option Addr) (n2 c2 : Nat), v = (.agg #[.int .u8 (p).tos, .int .u16 (p).id, .bool (p).keep, .int .u8 (p).ttl, .int .u8 (p).proto, .int .u32 (p).src, .int .u32 (p).dst, .slice A1 n1 c1, .slice A2 n2 c2]) ∧ p.Ok ∧ Bs w A1 n1 c1 p.opt ∧ Bs w A2 n2 c2 p.dat ∧ n1 ≤ 1048576 ∧ n2 ≤ 1048576 := by
  have hu := Try.underlying26
  obtain ⟨cs, xs, n, rfl, hcl, rfl, hxl, hi⟩ := open_struct hu (by kernel_rfl) hval hd
  rw [show (Try.prog.cellsOf 26) = 9 from by kernel_rfl] at hcl
  obtain ⟨v0, v1, v2, v3, v4, v5, v6, v7, v8, rfl⟩ := list9 hcl
  obtain ⟨y0, y1, y2, y3, y4, y5, y6, y7, y8, rfl⟩ := list9 (by simpa using hxl)
  obtain ⟨a0, rfl, b0l, b0h⟩ := trod_byte (t := 5) Try.underlying5 (by simpa using hi 0 _ rfl)
  obtain ⟨a1, rfl, b1l, b1h⟩ := trod_u16 (t := 22) Try.underlying22 (by simpa using hi 1 _ rfl)
  obtain ⟨a2, rfl⟩ := trod_yes (t := 4) Try.underlying4 (by simpa using hi 2 _ rfl)
  obtain ⟨a3, rfl, b3l, b3h⟩ := trod_byte (t := 5) Try.underlying5 (by simpa using hi 3 _ rfl)
  obtain ⟨a4, rfl, b4l, b4h⟩ := trod_byte (t := 5) Try.underlying5 (by simpa using hi 4 _ rfl)
  obtain ⟨a5, rfl, b5l, b5h⟩ := trod_u32 (t := 23) Try.underlying23 (by simpa using hi 5 _ rfl)
  obtain ⟨a6, rfl, b6l, b6h⟩ := trod_u32 (t := 23) Try.underlying23 (by simpa using hi 6 _ rfl)
  simp only [Rows.uptoBulk] at hb
  have m7 := bulks.part_le (l := [y0, y1, y2, y3, y4, y5, y6, y7, y8].map (·.1)) (d := y7.1) (by simp)
  have m8 := bulks.part_le (l := [y0, y1, y2, y3, y4, y5, y6, y7, y8].map (·.1)) (d := y8.1) (by simp)
  obtain ⟨A1, n1, c1, l1, rfl, k1, z1⟩ := trod_bytesU (t := 24) Try.underlying24 Try.underlying5 (by kernel_rfl) (Nat.le_refl _) (y := y7) (by omega) (by simpa using hi 7 _ rfl)
  obtain ⟨A2, n2, c2, l2, rfl, k2, z2⟩ := trod_bytesU (t := 24) Try.underlying24 Try.underlying5 (by kernel_rfl) (Nat.le_refl _) (y := y8) (by omega) (by simpa using hi 8 _ rfl)
  exact ⟨⟨a0, a1, a2, a3, a4, a5, a6, l1, l2⟩, A1, n1, c1, A2, n2, c2, rfl, ⟨⟨b0l, b0h⟩, ⟨b1l, b1h⟩, ⟨b3l, b3h⟩, ⟨b4l, b4h⟩, ⟨b5l, b5h⟩, ⟨b6l, b6h⟩⟩, k1, k2, z1, z2⟩
end
end Go.Proofs.Ytjhpmeagopdaiaa


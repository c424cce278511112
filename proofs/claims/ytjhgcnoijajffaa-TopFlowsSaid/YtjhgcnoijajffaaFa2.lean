/- Parts of the proofs of this seat, laid together. -/
import Derived.ChangeKeysEq
import Derived.Sort.QuietTacIn
import Derived.BigRegionIn
import Derived.Lib.AppendZerosOnto
import Derived.MapKept
import Derived.Test.YtjhgcnoijajffaaRows
import Derived.WalkKit
import Derived.ProofKit
import Derived.OpenShut
import Derived.ChangeOld
import Derived.Below
import Derived.SizedLaws
import Derived.JoinedCond
import Derived.Test.YtjhgcnoijajffaaFa1
namespace Go.Proofs.Ytjhgcnoijajffaa
open Go.RowKit
set_option linter.unusedVariables false
set_option linter.unusedSimpArgs false
set_option maxHeartbeats 4000000
set_option maxRecDepth 100000
theorem goes_tup {B : Nat} {P : Pkt} {E : Int} {C1 C2 : Option Addr} {e1 f1 e2 f2 : Nat} {w : World} (h1 : Own w B 5 C1 e1 f1 P.opt) (h2 : Own w B 5 C2 e2 f2 P.dat) :
    OpGoes Try.prog (fun v w' => (Kd.p (isTup B P E)).holds w' v ∧ Below w.heap.size w w') (.ok (.value (.tuple #[(.agg #[.int .u8 (P).tos, .int .u16 (P).id, .bool (P).keep, .int .u8 (P).ttl, .int .u8 (P).proto, .int .u32 (P).src, .int .u32 (P).dst, .slice C1 e1 f1, .slice C2 e2 f2]), .int .i64 E])) w) := ⟨⟨_, _, _, _, _, _, rfl, h1, h2⟩, Below.refl _ _⟩
theorem swith_all (p : Pkt) (A1 : Option Addr) (n1 c1 : Nat) (A2 : Option Addr) (n2 c2 : Nat) (pr : Int) (d : List UInt8) (P : Pkt) (E : Int) (hE : wiE p d.length = E) (hP : P = withP p pr d) (base : Nat) (A3 : Option Addr) (n3 c3 : Nat) (w : World) (k1 : Bs w A1 n1 c1 p.opt) (k3 : Own w base 5 A3 n3 c3 d) (hb : base ≤ w.heap.size) :
    Calls Try.prog 19 #[(.agg #[.int .u8 (p).tos, .int .u16 (p).id, .bool (p).keep, .int .u8 (p).ttl, .int .u8 (p).proto, .int .u32 (p).src, .int .u32 (p).dst, .slice A1 n1 c1, .slice A2 n2 c2]), .int .u8 pr, .slice A3 n3 c3] w (fun e w' => ∃ C1 e1 f1 C2 e2 f2, e = .returned (.tuple #[(.agg #[.int .u8 (P).tos, .int .u16 (P).id, .bool (P).keep, .int .u8 (P).ttl, .int .u8 (P).proto, .int .u32 (P).src, .int .u32 (P).dst, .slice C1 e1 f1, .slice C2 e2 f2]), .int .i64 E]) ∧ Own w' base 5 C1 e1 f1 P.opt ∧ Own w' base 5 C2 e2 f2 P.dat ∧ Below w.heap.size w w') := by
  have l3 := k3.len
  by_cases h : E = 0
  · have hp : P = { p with proto := pr, dat := d } := by rw [hP]; unfold withP; rw [hE, if_pos h]
    refine (swith_ok p A1 n1 c1 A2 n2 c2 pr A3 n3 c3 d w k1 k3.bs (by rw [← l3, hE, h])).mono ?_
    rintro e w' ⟨A4, n4, c4, rfl, O4, hB⟩
    rw [hp, h]
    exact ⟨A4, n4, c4, A3, n3, c3, rfl, O4.mono hb, k3.below hB, hB⟩
  · have hp : P = zP := by rw [hP]; unfold withP; rw [hE, if_neg h]
    refine (swith_bad p A1 n1 c1 A2 n2 c2 pr A3 n3 c3 d w k1 k3.bs (by rw [← l3, hE]; exact h)).mono ?_
    rintro e w' ⟨B1, m1, d1, B2, m2, d2, rfl, O1, O2, hB⟩
    rw [hp, ← hE, l3]
    exact ⟨B1, m1, d1, B2, m2, d2, rfl, O1.mono hb, O2.mono hb, hB⟩

def udE (p : Pkt) : Int := if p.proto ≠ 17 then 12 else if p.dat.length < 8 then 3 else if get16 p.dat 4 ≠ p.dat.length then 4 else if get16 p.dat 6 ≠ 0 ∧ psum p 17 p.dat ≠ 0 then 5 else 0
def rdD (l : List UInt8) : Dgm := ⟨get16 l 0, get16 l 2, get16 l 6 == 0, l.drop 8⟩
def udD (p : Pkt) : Dgm := if udE p = 0 then rdD p.dat else zD
structure DgPost (w : World) (D : Dgm) (E : Int) (e : Ending) (w' : World) : Prop where
  out : ∃ A n c, e = .returned (.tuple #[(.agg #[.int .u16 (D).src, .int .u16 (D).dst, .bool (D).bare, .slice A n c]), .int .i64 E]) ∧ Own w' w.heap.size 5 A n c D.dat ∧ Below w.heap.size w w'
theorem dgPost_no {w w' : World} {E : Int} (hB : Below w.heap.size w w') : DgPost w zD E (.returned (.tuple #[.agg #[.int .u16 0, .int .u16 0, .bool false, .slice none 0 0], .int .i64 E])) w' :=
  ⟨none, 0, 0, rfl, own_nil _ _ _, hB⟩
theorem udp_no (p : Pkt) (hp : p.Ok) (A1 : Option Addr) (n1 c1 : Nat) (A2 : Option Addr) (n2 c2 : Nat) (w : World) (k2 : Bs w A2 n2 c2 p.dat) (E q4 : Int) (b6 : Bool) (hq4 : get16 p.dat 4 = q4) (hb6 : (get16 p.dat 6 == 0) = b6)
    (h : (E = 12 ∧ (p.proto != 17) = true) ∨ (E = 3 ∧ (p.proto != 17) = false ∧ (n2 : Int) < 8) ∨ (E = 4 ∧ (p.proto != 17) = false ∧ 8 ≤ (n2 : Int) ∧ (q4 != (n2 : Int)) = true) ∨ (E = 5 ∧ (p.proto != 17) = false ∧ 8 ≤ (n2 : Int) ∧ (q4 != (n2 : Int)) = false ∧ b6 = false ∧ (psum p 17 p.dat == 0) = false)) :
    Calls Try.prog 17 #[(.agg #[.int .u8 (p).tos, .int .u16 (p).id, .bool (p).keep, .int .u8 (p).ttl, .int .u8 (p).proto, .int .u32 (p).src, .int .u32 (p).dst, .slice A1 n1 c1, .slice A2 n2 c2])] w (DgPost w zD E) := by
  have b2 := k2.max
  have q0 : 0 ≤ q4 := by rw [← hq4]; exact get16_lo _ _
  have q1 : q4 ≤ 65535 := by rw [← hq4]; exact get16_hi _ _
  have hw4 : IntKind.i64.wrap q4 = q4 := by rw [IntKind.wrap_i64]; omega
  have g4 : ∀ W, Bs W A2 n2 c2 p.dat → Calls Try.prog 40 #[.slice A2 n2 c2, .int .i64 4] W fun e w' => e = .returned (.int .u16 q4) ∧ Drawn W w' := fun W k => by have := get16_any A2 n2 c2 p.dat 4 W k; rw [hq4] at this; exact this
  obtain ⟨q6, hq6⟩ : ∃ q, get16 p.dat 6 = q := ⟨_, rfl⟩
  have g6 : ∀ W, Bs W A2 n2 c2 p.dat → Calls Try.prog 40 #[.slice A2 n2 c2, .int .i64 6] W fun e w' => e = .returned (.int .u16 q6) ∧ Drawn W w' := fun W k => by have := get16_any A2 n2 c2 p.dat 6 W k; rw [hq6] at this; exact this
  rw [hq6] at hb6
  clear hq4 hq6
  obtain ⟨k, hk, w1, hw1, P1, Z1, R1⟩ := nwI2 w #[.int .u8 (p).tos, .int .u16 (p).id, .bool (p).keep, .int .u8 (p).ttl, .int .u8 (p).proto, .int .u32 (p).src, .int .u32 (p).dst, .slice A1 n1 c1, .slice A2 n2 c2] 27 #[.int .u16 0, .int .u16 0, .bool false, .slice none 0 0] 32
  have Pc1 := P1.cell
  have Zc1 := Z1.cell
  have Pl1 := P1.lt
  have Zl1 := Z1.lt
  have x1 := (k2).below R1
  rcases h with ⟨rfl, h1⟩ | ⟨rfl, h1, h2⟩ | ⟨rfl, h1, h2, h3⟩ | ⟨rfl, h1, h2, h3, rfl, h5⟩
  · go_enter Try.func17, Try.ntmps17
    go_wp2_with (go_at_call 40; ((with_reducible refine (g6 w1 x1).mono ?_); rintro e w2 ⟨rfl, hD2⟩); have hB2 := hD2.bel; have P2 := P1.below hB2; have Pc2 := P2.cell; clear Pc1; have Z2 := Z1.below hB2; have Zc2 := Z2.cell; clear Zc1; have x2 := x1.below hB2; have R2 := below_then R1 hB2)
    obtain ⟨wf, hwf, Sf⟩ := store4 Z2 (.int .u16 0) (.int .u16 0) (.bool false) (.slice none 0 0)
    rw [hwf]
    have pf := Sf.blk.cell
    exact bodyPost_ret (by simp [results, Try.results17, go_sem, pf]) rfl (dgPost_no (Sf.bel R2 (by omega)))
  · go_enter Try.func17, Try.ntmps17
    go_wp2_with (go_at_call 40; ((with_reducible refine (g6 w1 x1).mono ?_); rintro e w2 ⟨rfl, hD2⟩); have hB2 := hD2.bel; have P2 := P1.below hB2; have Pc2 := P2.cell; clear Pc1; have Z2 := Z1.below hB2; have Zc2 := Z2.cell; clear Zc1; have x2 := x1.below hB2; have R2 := below_then R1 hB2)
    obtain ⟨wf, hwf, Sf⟩ := store4 Z2 (.int .u16 0) (.int .u16 0) (.bool false) (.slice none 0 0)
    rw [hwf]
    have pf := Sf.blk.cell
    exact bodyPost_ret (by simp [results, Try.results17, go_sem, pf]) rfl (dgPost_no (Sf.bel R2 (by omega)))
  · go_enter Try.func17, Try.ntmps17
    go_wp2_with (first
      | (go_at_call 40; ((with_reducible refine (g6 w1 x1).mono ?_); rintro e w2 ⟨rfl, hD2⟩); have hB2 := hD2.bel; have P2 := P1.below hB2; have Pc2 := P2.cell; clear Pc1; have Z2 := Z1.below hB2; have Zc2 := Z2.cell; clear Zc1; have x2 := x1.below hB2; have R2 := below_then R1 hB2)
      | (go_at_call 40; ((with_reducible refine (g4 w2 x2).mono ?_); rintro e w3 ⟨rfl, hD3⟩); have hB3 := hD3.bel; have P3 := P2.below hB3; have Pc3 := P3.cell; clear Pc2; have Z3 := Z2.below hB3; have Zc3 := Z3.cell; clear Zc2; have x3 := x2.below hB3; have R3 := below_then R2 hB3))
    obtain ⟨wf, hwf, Sf⟩ := store4 Z3 (.int .u16 0) (.int .u16 0) (.bool false) (.slice none 0 0)
    rw [hwf]
    have pf := Sf.blk.cell
    exact bodyPost_ret (by simp [results, Try.results17, go_sem, pf]) rfl (dgPost_no (Sf.bel R3 (by omega)))
  · have n2b : n2 ≤ 140737488400000 := by have : q4 = n2 := by simpa using h3
                                          omega
    go_enter Try.func17, Try.ntmps17
    go_wp2_with (first
      | (go_at_call 40; ((with_reducible refine (g6 w1 x1).mono ?_); rintro e w2 ⟨rfl, hD2⟩); have hB2 := hD2.bel; have P2 := P1.below hB2; have Pc2 := P2.cell; clear Pc1; have Z2 := Z1.below hB2; have Zc2 := Z2.cell; clear Zc1; have x2 := x1.below hB2; have R2 := below_then R1 hB2)
      | (go_at_call 40; ((with_reducible refine (g4 w2 x2).mono ?_); rintro e w3 ⟨rfl, hD3⟩); have hB3 := hD3.bel; have P3 := P2.below hB3; have Pc3 := P3.cell; clear Pc2; have Z3 := Z2.below hB3; have Zc3 := Z3.cell; clear Zc2; have x3 := x2.below hB3; have R3 := below_then R2 hB3)
      | (go_at_call 41; ((with_reducible refine (fits_any p hp A1 n1 c1 A2 n2 c2 17 (by omega) (by omega) w3 x3 n2b).mono ?_); rintro e w4 ⟨he4, hB4⟩); (try rw [h5] at he4); subst he4; have P4 := P3.below hB4; have Pc4 := P4.cell; clear Pc3; have Z4 := Z3.below hB4; have Zc4 := Z4.cell; clear Zc3; have x4 := x3.below hB4; have R4 := below_then R3 hB4))
    obtain ⟨wf, hwf, Sf⟩ := store4 Z4 (.int .u16 0) (.int .u16 0) (.bool false) (.slice none 0 0)
    rw [hwf]
    have pf := Sf.blk.cell
    exact bodyPost_ret (by simp [results, Try.results17, go_sem, pf]) rfl (dgPost_no (Sf.bel R4 (by omega)))
theorem udp_ok (p : Pkt) (hp : p.Ok) (A1 : Option Addr) (n1 c1 : Nat) (A2 : Option Addr) (n2 c2 : Nat) (w : World) (k2 : Bs w A2 n2 c2 p.dat) (q4 : Int) (b6 : Bool) (hq4 : get16 p.dat 4 = q4) (hb6 : (get16 p.dat 6 == 0) = b6)
    (h1 : (p.proto != 17) = false) (h2 : 8 ≤ (n2 : Int)) (h3 : (q4 != (n2 : Int)) = false) (h : b6 = true ∨ (b6 = false ∧ (psum p 17 p.dat == 0) = true)) :
    Calls Try.prog 17 #[(.agg #[.int .u8 (p).tos, .int .u16 (p).id, .bool (p).keep, .int .u8 (p).ttl, .int .u8 (p).proto, .int .u32 (p).src, .int .u32 (p).dst, .slice A1 n1 c1, .slice A2 n2 c2])] w (DgPost w (rdD p.dat) 0) := by
  have hlL : p.dat.take n2 = p.dat := List.take_of_length_le (by rw [k2.len]; exact Nat.le_refl _)
  obtain ⟨i8, hi8, -, hs8, -⟩ := info_parts info_u8
  have b2 := k2.max
  have hcap := k2.cap
  obtain ⟨b, off, rfl⟩ := k2.some_ (by omega)
  have hcut : ∀ W, (Instr.slice 25 (.slice (some ⟨b, off, none⟩) n2 c2) (some (.int .i64 8)) none none).run Try.prog W = _ := fun W => cut_l Try.underlying25 hi8 hs8 (some ⟨b, off, none⟩) n2 c2 .i64 8 (by omega) (by omega) W
  obtain ⟨A', n', c', eA, en, ec, hbD⟩ := k2.cutE (lo := 8) (hi := n2) (by omega) (Nat.le_refl _)
  simp only [show (8 : Int).toNat = 8 from rfl, eA, en, ec] at hcut
  rw [hlL] at hbD
  have hn' : n' ≤ n2 := by omega
  clear eA en ec hlL
  have q0 : 0 ≤ q4 := by rw [← hq4]; exact get16_lo _ _
  have q1 : q4 ≤ 65535 := by rw [← hq4]; exact get16_hi _ _
  have hw4 : IntKind.i64.wrap q4 = q4 := by rw [IntKind.wrap_i64]; omega
  have g4 : ∀ W, Bs W (some ⟨b, off, none⟩) n2 c2 p.dat → Calls Try.prog 40 #[.slice (some ⟨b, off, none⟩) n2 c2, .int .i64 4] W fun e w' => e = .returned (.int .u16 q4) ∧ Drawn W w' := fun W k => by have := get16_any (some ⟨b, off, none⟩) n2 c2 p.dat 4 W k; rw [hq4] at this; exact this
  obtain ⟨q6, hq6⟩ : ∃ q, get16 p.dat 6 = q := ⟨_, rfl⟩
  have g6 : ∀ W, Bs W (some ⟨b, off, none⟩) n2 c2 p.dat → Calls Try.prog 40 #[.slice (some ⟨b, off, none⟩) n2 c2, .int .i64 6] W fun e w' => e = .returned (.int .u16 q6) ∧ Drawn W w' := fun W k => by have := get16_any (some ⟨b, off, none⟩) n2 c2 p.dat 6 W k; rw [hq6] at this; exact this
  rw [hq6] at hb6
  have HQ6 := Lib.hid hq6
  clear hq4 hq6
  obtain ⟨v0, hv0⟩ : ∃ q, get16 p.dat 0 = q := ⟨_, rfl⟩
  obtain ⟨v2, hv2⟩ : ∃ q, get16 p.dat 2 = q := ⟨_, rfl⟩
  have g0 : ∀ W, Bs W (some ⟨b, off, none⟩) n2 c2 p.dat → Calls Try.prog 40 #[.slice (some ⟨b, off, none⟩) n2 c2, .int .i64 0] W fun e w' => e = .returned (.int .u16 v0) ∧ Drawn W w' := fun W k => by have := get16_any (some ⟨b, off, none⟩) n2 c2 p.dat 0 W k; rw [hv0] at this; exact this
  have g2 : ∀ W, Bs W (some ⟨b, off, none⟩) n2 c2 p.dat → Calls Try.prog 40 #[.slice (some ⟨b, off, none⟩) n2 c2, .int .i64 2] W fun e w' => e = .returned (.int .u16 v2) ∧ Drawn W w' := fun W k => by have := get16_any (some ⟨b, off, none⟩) n2 c2 p.dat 2 W k; rw [hv2] at this; exact this
  have HD : Hid (rdD p.dat = ⟨v0, v2, b6, p.dat.drop 8⟩) := by unfold Hid rdD; rw [hv0, hv2, HQ6.out, hb6]
  clear hv0 hv2
  have n2b : n2 ≤ 100000 := by have : q4 = n2 := by simpa using h3
                               omega
  obtain ⟨k, hk, w1, hw1, P1, Z1, R1⟩ := nwI2 w #[.int .u8 (p).tos, .int .u16 (p).id, .bool (p).keep, .int .u8 (p).ttl, .int .u8 (p).proto, .int .u32 (p).src, .int .u32 (p).dst, .slice A1 n1 c1, .slice (some ⟨b, off, none⟩) n2 c2] 27 #[.int .u16 0, .int .u16 0, .bool false, .slice none 0 0] 32
  have Pc1 := P1.cell
  have Zc1 := Z1.cell
  have Pl1 := P1.lt
  have Zl1 := Z1.lt
  have x1 := (k2).below R1
  rcases h with rfl | ⟨rfl, h5⟩
  · go_enter Try.func17, Try.ntmps17
    go_wp2_with (first
      | (go_at_call 40; ((with_reducible refine (g6 w1 x1).mono ?_); rintro e w2 ⟨rfl, hD2⟩); have hB2 := hD2.bel; have P2 := P1.below hB2; have Pc2 := P2.cell; clear Pc1; have Z2 := Z1.below hB2; have Zc2 := Z2.cell; clear Zc1; have x2 := x1.below hB2; have R2 := below_then R1 hB2)
      | (go_at_call 40; ((with_reducible refine (g4 w2 x2).mono ?_); rintro e w3 ⟨rfl, hD3⟩); have hB3 := hD3.bel; have P3 := P2.below hB3; have Pc3 := P3.cell; clear Pc2; have Z3 := Z2.below hB3; have Zc3 := Z3.cell; clear Zc2; have x3 := x2.below hB3; have R3 := below_then R2 hB3))
    have D3 := hbD.below R3
    have r3s := R3.size
    refine region_txt 8 (by kernel_rfl) (by kernel_rfl) ?_; (iterate 8 (first | (apply ObsK.skip (by rfl)) | (apply ObsK.v (by rfl); (intro wo hT; (repeat (first | (intro v hv; (skip)) | (intro _ _ k; try have hcv := cv k))); (have bo := x3.below hT; have hsz : w3.heap.size ≤ wo.heap.size := hT.size); refine Goes.mk ?_; go_simp; first | exact goes_v | exact goes_b (by assumption) | (refine goes_enter ?_; first | (go_at_call 40; ((with_reducible refine (g0 wo bo).mono ?_); rintro e w9 ⟨rfl, hD9⟩); exact ret_v hD9.bel) | (go_at_call 40; ((with_reducible refine (g2 wo bo).mono ?_); rintro e w9 ⟨rfl, hD9⟩); exact ret_v hD9.bel) | (go_at_call 42; ((with_reducible refine (clone_any A' n' c' _ wo (D3.below hT)).mono ?_); rintro e w9 ⟨A9, c9, rfl, ho9, hB9⟩); exact ret_p (own_isW ho9 hsz) hB9)))) | (apply ObsK.b (by rfl); (intro wo hT; (repeat (first | (intro v hv; (skip)) | (intro _ _ k; try have hcv := cv k))); (have bo := x3.below hT; have hsz : w3.heap.size ≤ wo.heap.size := hT.size); refine Goes.mk ?_; go_simp; first | exact goes_v | exact goes_b (by assumption) | (refine goes_enter ?_; first | (go_at_call 40; ((with_reducible refine (g0 wo bo).mono ?_); rintro e w9 ⟨rfl, hD9⟩); exact ret_v hD9.bel) | (go_at_call 40; ((with_reducible refine (g2 wo bo).mono ?_); rintro e w9 ⟨rfl, hD9⟩); exact ret_v hD9.bel) | (go_at_call 42; ((with_reducible refine (clone_any A' n' c' _ wo (D3.below hT)).mono ?_); rintro e w9 ⟨A9, c9, rfl, ho9, hB9⟩); exact ret_p (own_isW ho9 hsz) hB9)))) | (apply ObsK.p (q := isW w3.heap.size _) (by rfl) st_isW; (intro wo hT; (repeat (first | (intro v hv; (skip)) | (intro _ _ k; try have hcv := cv k))); (have bo := x3.below hT; have hsz : w3.heap.size ≤ wo.heap.size := hT.size); refine Goes.mk ?_; go_simp; first | exact goes_v | exact goes_b (by assumption) | (refine goes_enter ?_; first | (go_at_call 40; ((with_reducible refine (g0 wo bo).mono ?_); rintro e w9 ⟨rfl, hD9⟩); exact ret_v hD9.bel) | (go_at_call 40; ((with_reducible refine (g2 wo bo).mono ?_); rintro e w9 ⟨rfl, hD9⟩); exact ret_v hD9.bel) | (go_at_call 42; ((with_reducible refine (clone_any A' n' c' _ wo (D3.below hT)).mono ?_); rintro e w9 ⟨A9, c9, rfl, ho9, hB9⟩); exact ret_p (own_isW ho9 hsz) hB9)))))); refine ObsK.nil ?_; intro wz hBz; simp only [finOn, List.drop_succ_cons, List.drop_zero, List.drop_nil]
    rintro v9 ⟨A9, n9, c9, rfl, O9⟩
    go_simp
    have Zz := Z3.below hBz
    have zcz := Zz.cell
    have zl := Z3.lt
    obtain ⟨wf, hwf, Sf⟩ := store4 Zz (.int .u16 v0) (.int .u16 v2) (.bool true) (.slice A9 n9 c9)
    have pf := Sf.blk.cell
    have Tf := Sf.bel (below_then R3 hBz) (by omega)
    have Of := Sf.own O9 (fun a e => by have := O9.ge a e; omega)
    go_wp2_with fail
    refine bodyPost_ret (v := .tuple #[.agg #[.int .u16 v0, .int .u16 v2, .bool true, .slice A9 n9 c9], .int .i64 0]) (by simp [results, Try.results17, go_sem, pf]) rfl (by rw [HD.out]; exact ⟨A9, n9, c9, rfl, Of.mono r3s, Tf⟩)
  · go_enter Try.func17, Try.ntmps17
    go_wp2_with (first
      | (go_at_call 40; ((with_reducible refine (g6 w1 x1).mono ?_); rintro e w2 ⟨rfl, hD2⟩); have hB2 := hD2.bel; have P2 := P1.below hB2; have Pc2 := P2.cell; clear Pc1; have Z2 := Z1.below hB2; have Zc2 := Z2.cell; clear Zc1; have x2 := x1.below hB2; have R2 := below_then R1 hB2)
      | (go_at_call 40; ((with_reducible refine (g4 w2 x2).mono ?_); rintro e w3 ⟨rfl, hD3⟩); have hB3 := hD3.bel; have P3 := P2.below hB3; have Pc3 := P3.cell; clear Pc2; have Z3 := Z2.below hB3; have Zc3 := Z3.cell; clear Zc2; have x3 := x2.below hB3; have R3 := below_then R2 hB3)
      | (go_at_call 41; ((with_reducible refine (fits_any p hp A1 n1 c1 (some ⟨b, off, none⟩) n2 c2 17 (by omega) (by omega) w3 x3 (by omega)).mono ?_); rintro e w4 ⟨he4, hB4⟩); (try rw [h5] at he4); subst he4; have P4 := P3.below hB4; have Pc4 := P4.cell; clear Pc3; have Z4 := Z3.below hB4; have Zc4 := Z4.cell; clear Zc3; have x4 := x3.below hB4; have R4 := below_then R3 hB4))
    have D4 := hbD.below R4
    have r4s := R4.size
    refine region_txt 8 (by kernel_rfl) (by kernel_rfl) ?_; (iterate 8 (first | (apply ObsK.skip (by rfl)) | (apply ObsK.v (by rfl); (intro wo hT; (repeat (first | (intro v hv; (skip)) | (intro _ _ k; try have hcv := cv k))); (have bo := x4.below hT; have hsz : w4.heap.size ≤ wo.heap.size := hT.size); refine Goes.mk ?_; go_simp; first | exact goes_v | exact goes_b (by assumption) | (refine goes_enter ?_; first | (go_at_call 40; ((with_reducible refine (g0 wo bo).mono ?_); rintro e w9 ⟨rfl, hD9⟩); exact ret_v hD9.bel) | (go_at_call 40; ((with_reducible refine (g2 wo bo).mono ?_); rintro e w9 ⟨rfl, hD9⟩); exact ret_v hD9.bel) | (go_at_call 42; ((with_reducible refine (clone_any A' n' c' _ wo (D4.below hT)).mono ?_); rintro e w9 ⟨A9, c9, rfl, ho9, hB9⟩); exact ret_p (own_isW ho9 hsz) hB9)))) | (apply ObsK.b (by rfl); (intro wo hT; (repeat (first | (intro v hv; (skip)) | (intro _ _ k; try have hcv := cv k))); (have bo := x4.below hT; have hsz : w4.heap.size ≤ wo.heap.size := hT.size); refine Goes.mk ?_; go_simp; first | exact goes_v | exact goes_b (by assumption) | (refine goes_enter ?_; first | (go_at_call 40; ((with_reducible refine (g0 wo bo).mono ?_); rintro e w9 ⟨rfl, hD9⟩); exact ret_v hD9.bel) | (go_at_call 40; ((with_reducible refine (g2 wo bo).mono ?_); rintro e w9 ⟨rfl, hD9⟩); exact ret_v hD9.bel) | (go_at_call 42; ((with_reducible refine (clone_any A' n' c' _ wo (D4.below hT)).mono ?_); rintro e w9 ⟨A9, c9, rfl, ho9, hB9⟩); exact ret_p (own_isW ho9 hsz) hB9)))) | (apply ObsK.p (q := isW w4.heap.size _) (by rfl) st_isW; (intro wo hT; (repeat (first | (intro v hv; (skip)) | (intro _ _ k; try have hcv := cv k))); (have bo := x4.below hT; have hsz : w4.heap.size ≤ wo.heap.size := hT.size); refine Goes.mk ?_; go_simp; first | exact goes_v | exact goes_b (by assumption) | (refine goes_enter ?_; first | (go_at_call 40; ((with_reducible refine (g0 wo bo).mono ?_); rintro e w9 ⟨rfl, hD9⟩); exact ret_v hD9.bel) | (go_at_call 40; ((with_reducible refine (g2 wo bo).mono ?_); rintro e w9 ⟨rfl, hD9⟩); exact ret_v hD9.bel) | (go_at_call 42; ((with_reducible refine (clone_any A' n' c' _ wo (D4.below hT)).mono ?_); rintro e w9 ⟨A9, c9, rfl, ho9, hB9⟩); exact ret_p (own_isW ho9 hsz) hB9)))))); refine ObsK.nil ?_; intro wz hBz; simp only [finOn, List.drop_succ_cons, List.drop_zero, List.drop_nil]
    rintro v9 ⟨A9, n9, c9, rfl, O9⟩
    go_simp
    have Zz := Z4.below hBz
    have zcz := Zz.cell
    have zl := Z4.lt
    obtain ⟨wf, hwf, Sf⟩ := store4 Zz (.int .u16 v0) (.int .u16 v2) (.bool false) (.slice A9 n9 c9)
    have pf := Sf.blk.cell
    have Tf := Sf.bel (below_then R4 hBz) (by omega)
    have Of := Sf.own O9 (fun a e => by have := O9.ge a e; omega)
    go_wp2_with fail
    refine bodyPost_ret (v := .tuple #[.agg #[.int .u16 v0, .int .u16 v2, .bool false, .slice A9 n9 c9], .int .i64 0]) (by simp [results, Try.results17, go_sem, pf]) rfl (by rw [HD.out]; exact ⟨A9, n9, c9, rfl, Of.mono r4s, Tf⟩)
theorem ud_ways (p : Pkt) (n2 : Nat) (l2 : p.dat.length = n2) :
    (udE p ≠ 0 ∧ ((udE p = 12 ∧ (p.proto != 17) = true) ∨ (udE p = 3 ∧ (p.proto != 17) = false ∧ (n2 : Int) < 8) ∨ (udE p = 4 ∧ (p.proto != 17) = false ∧ 8 ≤ (n2 : Int) ∧ (get16 p.dat 4 != (n2 : Int)) = true) ∨ (udE p = 5 ∧ (p.proto != 17) = false ∧ 8 ≤ (n2 : Int) ∧ (get16 p.dat 4 != (n2 : Int)) = false ∧ (get16 p.dat 6 == 0) = false ∧ (psum p 17 p.dat == 0) = false))) ∨
    (udE p = 0 ∧ (p.proto != 17) = false ∧ 8 ≤ (n2 : Int) ∧ (get16 p.dat 4 != (n2 : Int)) = false ∧ ((get16 p.dat 6 == 0) = true ∨ ((get16 p.dat 6 == 0) = false ∧ (psum p 17 p.dat == 0) = true))) := by
  unfold udE
  rw [l2]
  by_cases h1 : p.proto = 17
  · by_cases h2 : n2 < 8
    · have h2' : (n2 : Int) < 8 := by omega
      simp [h1, h2, h2']
    · have h2' : 8 ≤ (n2 : Int) := by omega
      by_cases h3 : get16 p.dat 4 = n2
      · by_cases h6 : get16 p.dat 6 = 0
        · simp [h1, h2, h2', h3, h6]
        · by_cases h5 : psum p 17 p.dat = 0
          · simp [h1, h2, h2', h3, h6, h5]
          · simp [h1, h2, h2', h3, h6, h5]
      · simp [h1, h2, h2', h3]
  · simp [h1]
theorem udp_any (p : Pkt) (hp : p.Ok) (A1 : Option Addr) (n1 c1 : Nat) (A2 : Option Addr) (n2 c2 : Nat) (w : World) (k2 : Bs w A2 n2 c2 p.dat) :
    Calls Try.prog 17 #[(.agg #[.int .u8 (p).tos, .int .u16 (p).id, .bool (p).keep, .int .u8 (p).ttl, .int .u8 (p).proto, .int .u32 (p).src, .int .u32 (p).dst, .slice A1 n1 c1, .slice A2 n2 c2])] w (DgPost w (udD p) (udE p)) := by
  unfold udD
  rcases ud_ways p n2 k2.len with ⟨h0, h⟩ | ⟨h0, h1, h2, h3, h⟩
  · rw [if_neg h0]
    exact udp_no p hp A1 n1 c1 A2 n2 c2 w k2 _ _ _ rfl rfl h
  · rw [if_pos h0, h0]
    exact udp_ok p hp A1 n1 c1 A2 n2 c2 w k2 _ _ rfl rfl h1 h2 h3 h
set_option maxHeartbeats 1000000
def aftY (ops : Array Oper) (l : Nat) : Nat → Nat → Bool
  | 0, _ => false
  | f + 1, j => match ops[j]? with
    | some o => o.after.any fun e => Region.binds .any e && (e.on == l || aftY ops l f e.on)
    | none => false
def lastY (ops : Array Oper) (exs : List Nat) (i : Nat) : Bool := lastX exs i || match exs.getLast? with
  | some l => aftY ops l 40 i
  | none => false
theorem aftY_out {ops : Array Oper} {listed : Array Bool} (hd : ∀ i o, ops[i]? = some o → listed.getD i false = true → ∀ e ∈ o.after, Region.binds .any e = true → listed.getD e.on false = true) {l : Nat} :
    ∀ f j, aftY ops l f j = true → listed.getD j false = true → listed.getD l false = true
  | 0, _, h, _ => by cases h
  | f + 1, j, h, hj => by
    unfold aftY at h
    cases ho : ops[j]? with
    | none => rw [ho] at h; cases h
    | some o =>
      rw [ho] at h
      simp only [Array.any_eq_true, Bool.and_eq_true, Bool.or_eq_true, beq_iff_eq] at h
      obtain ⟨q, hq, hb, hh⟩ := h
      have := hd j o ho hj _ (Array.getElem_mem hq) hb
      rcases hh with e | hh
      · rw [← e]; exact this
      · exact aftY_out hd f _ hh this
theorem lastY_out {ops : Array Oper} {listed : Array Bool} (hd : ∀ i o, ops[i]? = some o → listed.getD i false = true → ∀ e ∈ o.after, Region.binds .any e = true → listed.getD e.on false = true) {exs : List Nat} {j : Nat} (h : lastY ops exs j = true)
    (hj : listed.getD j false = true) : ∃ j', lastX exs j' = true ∧ listed.getD j' false = true := by
  unfold lastY at h
  rw [Bool.or_eq_true] at h
  rcases h with h | h
  · exact ⟨j, h, hj⟩
  · cases hl : exs.getLast? with
    | none => rw [hl] at h; cases h
    | some l =>
      rw [hl] at h
      exact ⟨l, by unfold lastX; rw [hl]; simp, aftY_out hd _ _ h hj⟩
def ObsY (P : Program) (ops : Array Oper) (a0 : Act) (w0 : World) (g : Nat) (J : Nat → World → Prop) (exs : List Nat) (fin : List (Tmp × Kd) → Prop) : Nat → Nat → List (Tmp × Kd) → List Oper → Prop
  | _, _, ks, [] => fin ks
  | i, c, ks, o :: rest => ∃ K t, o.dst = some t ∧ (K.Ok ∧ (lastY ops exs i = true ∨ K.OkX g)) ∧ Ob1X P ops a0 w0 g J c (exs.elem i) ks o K ∧ ObsY P ops a0 w0 g J exs fin (i + 1) (bif exs.elem i then c + 1 else c) ((t, K) :: ks) rest
section
variable {P : Program} {ops : Array Oper} {a0 : Act} {w0 : World} {g : Nat} {J : Nat → World → Prop} {exs : List Nat} {fin : List (Tmp × Kd) → Prop} {i c : Nat} {ks : List (Tmp × Kd)} {rest : List Oper}
  {t : Tmp} {op : Op} {ty : TypeId} {pos : String} {after : Array Edge} {gd : Option (Nat × Bool)}
theorem ObsY.v {x : Value} (hx : exs.elem i = false) (hg : wantK ops ks gd = some true) (ho : ∀ W, w0.grownBy W (some g) → leanOn ks W op.operands.toList (Goes P (.v x) ⟨some t, op, ty, pos, after, gd⟩ W) a0)
    (hr : ObsY P ops a0 w0 g J exs fin (i + 1) c ((t, .v x) :: ks) rest) : ObsY P ops a0 w0 g J exs fin i c ks (⟨some t, op, ty, pos, after, gd⟩ :: rest) :=
  ⟨.v x, t, rfl, ⟨trivial, .inr trivial⟩, .inl ⟨hx, hg, ho⟩, by rw [hx]; exact hr⟩
theorem ObsY.p {q : World → Value → Prop} (hx : exs.elem i = false) (hg : wantK ops ks gd = some true) (hkb : ∀ w w' v, q w v → Below w.heap.size w w' → q w' v) (hk : ∀ w w' v, q w v → w.grownBy w' (some g) → q w' v) (ho : ∀ W, w0.grownBy W (some g) → leanOn ks W op.operands.toList (Goes P (.p q) ⟨some t, op, ty, pos, after, gd⟩ W) a0)
    (hr : ObsY P ops a0 w0 g J exs fin (i + 1) c ((t, .p q) :: ks) rest) : ObsY P ops a0 w0 g J exs fin i c ks (⟨some t, op, ty, pos, after, gd⟩ :: rest) :=
  ⟨.p q, t, rfl, ⟨hkb, .inr hk⟩, .inl ⟨hx, hg, ho⟩, by rw [hx]; exact hr⟩
theorem ObsY.ev {x : Value} (hx : exs.elem i = true) (hg : wantK ops ks gd = some true) (ho : ∀ W, w0.grownBy W (some g) → J c W → leanOn ks W op.operands.toList (GoesX P (.v x) g (J (c + 1)) ⟨some t, op, ty, pos, after, gd⟩ W) a0)
    (hr : ObsY P ops a0 w0 g J exs fin (i + 1) (c + 1) ((t, .v x) :: ks) rest) : ObsY P ops a0 w0 g J exs fin i c ks (⟨some t, op, ty, pos, after, gd⟩ :: rest) :=
  ⟨.v x, t, rfl, ⟨trivial, .inr trivial⟩, .inr (.inl ⟨hx, hg, ho⟩), by rw [hx]; exact hr⟩
theorem ObsY.ap {q : World → Value → Prop} (hx : exs.elem i = false) (hg : wantK ops ks gd = some true) (hl : lastY ops exs i = true) (hkb : ∀ w w' v, q w v → Below w.heap.size w w' → q w' v) (ho : ∀ W, w0.grownBy W (some g) → leanOn ks W op.operands.toList (Goes P (.p q) ⟨some t, op, ty, pos, after, gd⟩ W) a0)
    (hr : ObsY P ops a0 w0 g J exs fin (i + 1) c ((t, .p q) :: ks) rest) : ObsY P ops a0 w0 g J exs fin i c ks (⟨some t, op, ty, pos, after, gd⟩ :: rest) :=
  ⟨.p q, t, rfl, ⟨hkb, .inl hl⟩, .inl ⟨hx, hg, ho⟩, by rw [hx]; exact hr⟩
theorem ObsY.ep {q : World → Value → Prop} (hx : exs.elem i = true) (hg : wantK ops ks gd = some true) (hl : lastY ops exs i = true) (hkb : ∀ w w' v, q w v → Below w.heap.size w w' → q w' v) (ho : ∀ W, w0.grownBy W (some g) → J c W → leanOn ks W op.operands.toList (GoesX P (.p q) g (J (c + 1)) ⟨some t, op, ty, pos, after, gd⟩ W) a0)
    (hr : ObsY P ops a0 w0 g J exs fin (i + 1) (c + 1) ((t, .p q) :: ks) rest) : ObsY P ops a0 w0 g J exs fin i c ks (⟨some t, op, ty, pos, after, gd⟩ :: rest) :=
  ⟨.p q, t, rfl, ⟨hkb, .inl hl⟩, .inr (.inl ⟨hx, hg, ho⟩), by rw [hx]; exact hr⟩
theorem ObsY.skip (hx : exs.elem i = false) (hg : wantK ops ks gd = some false) (hr : ObsY P ops a0 w0 g J exs fin (i + 1) c ((t, .v undef) :: ks) rest) : ObsY P ops a0 w0 g J exs fin i c ks (⟨some t, op, ty, pos, after, gd⟩ :: rest) :=
  ⟨.v undef, t, rfl, ⟨trivial, .inr trivial⟩, .inr (.inr ⟨hx, hg, rfl⟩), by rw [hx]; exact hr⟩
theorem ObsY.nil (h : fin ks) : ObsY P ops a0 w0 g J exs fin i c ks [] := h
end
theorem ObsY.out {P : Program} {ops : Array Oper} {a0 : Act} {w0 : World} {g : Nat} {J : Nat → World → Prop} {exs : List Nat} {fin : List (Tmp × Kd) → Prop} : ∀ {l : List Oper} {i0 : Nat} {ks : List (Tmp × Kd)}, ObsY P ops a0 w0 g J exs fin i0 (czX exs i0) ks l →
    ∃ Ks : Nat → Kd, ∃ kz : Nat → List (Tmp × Kd), kz 0 = ks ∧ fin (kz l.length) ∧ ∀ i o, l[i]? = some o → ∃ t, o.dst = some t ∧ ((Ks i).Ok ∧ (lastY ops exs (i0 + i) = true ∨ (Ks i).OkX g)) ∧ Ob1X P ops a0 w0 g J (czX exs (i0 + i)) (exs.elem (i0 + i)) (kz i) o (Ks i) ∧ kz (i + 1) = (t, Ks i) :: kz i
  | [], i0, ks, h => ⟨fun _ => .v undef, fun _ => ks, rfl, h, fun i o ho => by simp at ho⟩
  | o :: rest, i0, ks, ⟨K, t, hd, hk, hob, hr⟩ => by
    have hr' : ObsY P ops a0 w0 g J exs fin (i0 + 1) (czX exs (i0 + 1)) ((t, K) :: ks) rest := hr
    obtain ⟨Ks, kz, h0, hf, hall⟩ := ObsY.out hr'
    refine ⟨fun i => match i with | 0 => K | i + 1 => Ks i, fun i => match i with | 0 => ks | i + 1 => kz i, rfl, hf, fun i o' ho' => ?_⟩
    cases i with
    | zero =>
      simp only [List.getElem?_cons_zero, Option.some.injEq] at ho'
      subst ho'
      exact ⟨t, hd, hk, hob, h0⟩
    | succ i =>
      have := hall i o' (by simpa using ho')
      rw [show i0 + 1 + i = i0 + (i + 1) from by omega] at this
      exact this
section
variable {P : Program} {Q : Exit → Act → World → Prop}
theorem regionXZ {id : Nat} {l : List Oper} {a : Act} {w : World} (m z : Nat) (exs : List Nat) (g : Nat) (J : Nat → World → Prop) (hm : P.follows .mixedOrders = true) (hchk : regZ l.toArray m z a.tmps.size = true) (hQ : ∀ (t : Tmp) v c a w, Q (.panic c) (Act.put a (some t) v) w → Q (.panic c) a w) (hzx : exs.elem z = false) (hex : exB l.toArray m exs = true)
    (hJ0 : J 0 w) (hJs : ∀ c W W', J c W → Below W.heap.size W W' → J c W')
    (hobs : ObsY P l.toArray a w g J exs (fun ks => ∀ W, w.grownBy W (some g) → J exs.length W → finOn W ks (fun a' => wpList P l.toArray Q (l.drop m) a' W) a) 0 0 [] (l.take m)) :
    (Code.region id l.toArray true).wp P Q a w := by
  have R := regZ_out hchk
  obtain ⟨ops, hops⟩ : ∃ ops, l.toArray = ops := ⟨_, rfl⟩
  have hl' : l = ops.toList := by rw [← hops]
  rw [hops] at hobs R hex ⊢
  rw [hl'] at hobs
  clear hops hl' hchk
  have hex' : ∀ q, q < exs.length → exs.getD q 0 < m ∧ czX exs (exs.getD q 0) = q ∧ (q = 0 ∨ ∃ o, ops[exs.getD q 0]? = some o ∧ hasOn o (exs.getD (q - 1) 0) = true) := by
    intro q hq
    have h := (List.all_eq_true.1 hex) q (List.mem_range.2 hq)
    simp only [Bool.and_eq_true, decide_eq_true_eq, beq_iff_eq, Bool.or_eq_true] at h
    refine ⟨h.1.1, h.1.2, h.2.imp (fun h => h) fun h2 => ?_⟩
    cases ho : ops[exs.getD q 0]? with
    | none => rw [ho] at h2; cases h2
    | some o => rw [ho] at h2; exact ⟨o, rfl, h2⟩
  have hidx : ∀ i, exs.elem i = true → ∃ q, q < exs.length ∧ exs.getD q 0 = i := by
    intro i hi
    obtain ⟨q, hq, e⟩ := List.mem_iff_getElem.1 (List.elem_iff.1 hi)
    exact ⟨q, hq, by rw [List.getD_eq_getElem?_getD, List.getElem?_eq_getElem hq]; exact e⟩
  have hmemE : ∀ q, q < exs.length → exs.elem (exs.getD q 0) = true := by
    intro q hq
    rw [List.elem_iff, List.getD_eq_getElem?_getD, List.getElem?_eq_getElem hq]
    exact List.getElem_mem hq
  obtain ⟨Ks, kz, hz0, hfin, hall⟩ := ObsY.out (i0 := 0) hobs
  simp only [Nat.zero_add] at hall
  have hmlen : (ops.toList.take m).length = m := by simp [R.le]
  rw [hmlen] at hfin
  have hat : ∀ i o, i < m → ops[i]? = some o → (ops.toList.take m)[i]? = some o := fun i o hi ho => by
    rw [List.getElem?_take, if_pos hi]; simpa using ho
  have hta : ∀ i o, (ops.toList.take m)[i]? = some o → i < m ∧ ops[i]? = some o := fun i o ho => by
    rw [List.getElem?_take] at ho
    split at ho
    · exact ⟨‹_›, by simpa using ho⟩
    · cases ho
  have hall2 : ∀ i o, (ops.toList.take m)[i]? = some o → ∃ t, o.dst = some t ∧ kz (i + 1) = (t, Ks i) :: kz i := fun i o ho => by
    obtain ⟨t, h1, _, _, h2⟩ := hall i o ho
    exact ⟨t, h1, h2⟩
  have hmem : ∀ i, i ≤ m → ∀ t K, (t, K) ∈ kz i → ∃ j, j < i ∧ dstOf ops j = some t ∧ K = Ks j := fun i hi t K hm => by
    obtain ⟨j, o, h1, h2, h3, h4⟩ := kz_mem hz0 hall2 i (by omega) t K hm
    obtain ⟨_, ho⟩ := hta j o h2
    exact ⟨j, h1, by unfold dstOf; rw [ho]; exact h3, h4⟩
  refine wp_region_any hm ?_
  have hd : ∀ i o, ops[i]? = some o → dstOf ops i = o.dst := fun i o ho => by unfold dstOf; rw [ho]; rfl
  have hend : ∀ (listed : Array Bool) (a' : Act) (w' : World), RInvX ops a w Ks m g J exs listed a' w' → (∀ j, j < m → listed.getD j false = true) → wpList P ops Q (ops.toList.drop m) a' w' := by
    intro listed a' w' hI hlst
    have HJX : J exs.length w' := by
      obtain ⟨c, hc, hq, hj⟩ := hI.cnt
      have : c = exs.length := by
        rcases Nat.lt_or_ge c exs.length with hlt | hge
        · have h1 := hq c hlt
          rw [hlst _ (hex' c hlt).1] at h1
          simp at h1
        · omega
      rw [← this]; exact hj
    obtain ⟨b, hb, e1, e2, e3, e4⟩ := finOn.out (a' := a') (hfin w' hI.ext HJX) hI.size.symm (fun t K hm => by
      obtain ⟨j, hj, hdj, rfl⟩ := hmem m (Nat.le_refl _) t K hm
      obtain ⟨o, ho, hod⟩ := dstOf_some hdj
      obtain ⟨s, hs, hsn, _⟩ := R.main j o hj ho
      rw [hod] at hs
      injection hs with hs
      subst hs
      exact ⟨by rw [hI.size]; exact hsn, hI.val j t hj (hlst j hj) hdj⟩)
    have : b = a' := by
      cases b with
      | mk bt bd =>
        cases a' with
        | mk at' ad =>
          simp only at e1 e2 e3 e4
          have hdf : bd = ad := by rw [e2]; exact hI.defers.symm
          have htm : bt = at' := by
            apply Array.ext
            · rw [e1]; exact hI.size.symm
            · intro t t1 t2
              have : bt.getD t undef = at'.getD t undef := by
                by_cases hx : ∃ K, (t, K) ∈ kz m
                · exact e4 t hx
                · rw [e3 t (fun K hm => hx ⟨K, hm⟩)]
                  refine (hI.other t fun j hj hdj => hx ?_).symm
                  obtain ⟨o, ho, hod⟩ := dstOf_some hdj
                  exact ⟨Ks j, kz_all hall2 m (by omega) j o t hj (hat j o hj ho) hod⟩
              simpa only [Array.getD_eq_getD_getElem?, Array.getElem?_eq_getElem t1, Array.getElem?_eq_getElem t2, Option.getD_some] using this
          subst hdf htm
          rfl
    rw [this] at hb
    exact hb
  have key : ∀ (fuel : Nat) (listed : Array Bool) (a' : Act) (w' : World), RInvX ops a w Ks m g J exs listed a' w' → (∀ i, m ≤ i → i < ops.size → listed.getD i false = false) →
      ((List.range ops.size).filter fun i => !listed.getD i true).length ≤ fuel → wpAny P .any ops Q fuel listed a' w' := by
    intro fuel
    have hprefix : ∀ (listed : Array Bool), listed.size = ops.size → (∀ j, j < m → listed.getD j false = true) → (∀ i, m ≤ i → i < ops.size → listed.getD i false = false) → ∀ i, i < ops.size → listed.getD i false = decide (i < m) := by
      intro listed hs h1 h2 i hi
      by_cases e : i < m
      · rw [h1 i e]; simp [e]
      · rw [h2 i (by omega) hi]; simp [e]
    induction fuel with
    | zero =>
      intro listed a' w' hI hno hc
      have h0 : ((List.range ops.size).filter fun i => !listed.getD i true) = [] := List.eq_nil_of_length_eq_zero (by omega)
      have hal : ∀ i, i < ops.size → listed.getD i false = true := by
        intro i hi
        rw [List.filter_eq_nil_iff] at h0
        have := h0 i (List.mem_range.2 hi)
        rw [← getD_ff (by rw [hI.lsize]; exact hi)]
        simpa using this
      have hms : m = ops.size := by
        rcases Nat.lt_or_ge m ops.size with hlt | hge
        · have := hno m (Nat.le_refl _) hlt
          rw [hal m hlt] at this
          cases this
        · have := R.le; omega
      have := hend listed a' w' hI (fun j hj => hal j (by omega))
      rw [hms] at this
      have hdr : ops.toList.drop ops.size = [] := by simp
      rw [hdr] at this
      refine ⟨?_, this⟩
      unfold Region.ready
      rw [List.filter_eq_nil_iff] at h0 ⊢
      intro i hi
      have := h0 i hi
      simp only [Bool.not_eq_true] at this ⊢
      rw [this]
      rfl
    | succ fuel ih =>
      intro listed a' w' hI hno hc
      by_cases hdone : ∀ j, j < m → listed.getD j false = true
      · refine tail_anyZ R (fuel + 1) m listed a' w' (Nat.le_refl _) R.le hI.lsize (hprefix listed hI.lsize hdone hno) ?_ (hend listed a' w' hI hdone)
        have hlen : ops.size - m ≤ ((List.range ops.size).filter fun i => !listed.getD i true).length := by
          have hsub : (List.range ops.size).filter (fun i => decide (m ≤ i)) = (List.range ops.size).filter fun i => !listed.getD i true := by
            apply List.filter_congr
            intro i hi
            have hi := List.mem_range.1 hi
            rw [getD_ff (by rw [hI.lsize]; exact hi), hprefix listed hI.lsize hdone hno i hi]
            by_cases e : i < m <;> simp [e] <;> omega
          rw [← hsub]
          have : ∀ N, m ≤ N → ((List.range N).filter fun i => decide (m ≤ i)).length = N - m := by
            intro N hN
            induction N with
            | zero => simp
            | succ N ihN =>
              rw [List.range_succ, List.filter_append, List.length_append]
              by_cases e : m ≤ N
              · rw [ihN e]; simp [e]; omega
              · have : m = N + 1 := by omega
                subst this
                have : (List.range N).filter (fun i => decide (N + 1 ≤ i)) = [] := by
                  rw [List.filter_eq_nil_iff]
                  intro i hi
                  have := List.mem_range.1 hi
                  simp; omega
                rw [this]
                simp
          rw [this _ R.le]
          exact Nat.le_refl _
        omega
      · by_cases hzz : ∀ j, j < m → j ≠ z → listed.getD j false = true
        · have zlt := R.zlt
          have zs : z < ops.size := by have := R.le; omega
          have hlz : listed.getD z false = false := by
            cases hlz : listed.getD z false with
            | false => rfl
            | true => exact absurd (fun j hj => by by_cases e : j = z; · rw [e]; exact hlz
                                                   · exact hzz j hj e) hdone
          have hlst : listed = lateL m z ops.size := by
            apply Array.ext
            · rw [hI.lsize]; simp [lateL]
            · intro q q1 q2
              have qs : q < ops.size := by rw [← hI.lsize]; exact q1
              have e1 : listed[q] = listed.getD q false := by simp [Array.getD_eq_getD_getElem?, Array.getElem?_eq_getElem q1]
              rw [e1]
              simp only [lateL, Array.getElem_ofFn]
              by_cases qm : q < m
              · by_cases qz : q = z
                · subst qz; rw [hlz]; simp
                · rw [hzz q qm qz]; simp [qm, qz]
              · rw [hno q (by omega) qs]; simp [qm]
          have ho : ops[z]? = some ops[z] := Array.getElem?_eq_getElem zs
          obtain ⟨o, hoo⟩ : ∃ o, ops[z] = o := ⟨_, rfl⟩
          rw [hoo] at ho
          have hnl' : listed.getD z true = false := by rw [getD_ff (by rw [hI.lsize]; exact zs)]; exact hlz
          have hrd0 : z ∈ Region.ready .any ops listed := by have := R.rdy; rw [← hlst] at this; simpa using this
          obtain ⟨_, o', ho', haf⟩ := mem_ready.1 hrd0
          rw [ho] at ho'
          injection ho' with ho'
          subst ho'
          obtain ⟨hext, hgn⟩ := R.ext o ho
          have him := zlt
          have his := zs
          have hsi : z < listed.size := by rw [hI.lsize]; exact zs
          obtain ⟨t, ht, htn, hne, hsel, hrd, hgd⟩ := R.main z o him ho
          obtain ⟨t', ht', hok, hob, hkz⟩ := hall z o (hat z o him ho)
          have hon : ∀ j, hasOn o j = true → listed.getD j false = true := fun j hj => by
            obtain ⟨e, he, heo, heb⟩ := hasOn_mem hj
            rw [← heo]
            exact haf e he heb
          have hnext : ∀ v w'', (Ks z).holds w'' v → w'.grownBy w'' (some g) → (∀ j, j < m → listed.getD j false = true → ∀ u, (Ks j).holds w' u → (Ks j).holds w'' u) → (∃ c, c ≤ exs.length ∧ (∀ q, q < exs.length → (listed.setIfInBounds z true).getD (exs.getD q 0) false = decide (q < c)) ∧ J c w'') → wpAny P .any ops Q fuel (listed.setIfInBounds z true) (a'.put o.dst v) w'' := by
            intro v w'' hv hb hkeep hcn
            refine ih _ _ _ ⟨by simpa using hI.lsize, ?_, ?_, ext_trans hI.ext hb, hcn, ?_, ?_, ?_⟩ ?_ ?_
            · rw [ht]; exact hI.defers
            · rw [ht]; simpa [Act.put] using hI.size
            · intro s hs
              have hst : s ≠ t := fun e => hs z him (by rw [hd z _ ho, ht, e])
              rw [ht, put_getD (by rw [hI.size]; exact htn), if_neg hst]
              exact hI.other s hs
            · intro j s hjm hj hdj
              rw [getD_set hsi] at hj
              rw [ht, put_getD (by rw [hI.size]; exact htn)]
              by_cases e : j = z
              · subst e
                have : s = t := by rw [hd j _ ho, ht] at hdj; injection hdj with hdj; exact hdj.symm
                rw [if_pos this]
                exact hv
              · rw [if_neg e] at hj
                have hst : s ≠ t := fun e2 => e (dst_injZ R hjm him hdj (by rw [hd z _ ho, ht, e2]))
                rw [if_neg hst]
                exact hkeep j hjm hj _ (hI.val j s hjm hj hdj)
            · intro q oq hq hlq e he hb
              rw [getD_set hsi] at hlq ⊢
              by_cases e1 : q = z
              · subst e1
                rw [ho] at hq
                injection hq with hq
                subst hq
                split
                · rfl
                · exact haf e he hb
              · rw [if_neg e1] at hlq
                split
                · rfl
                · exact hI.down q oq hq hlq e he hb
            · intro q hq hqs
              rw [getD_set hsi, if_neg (by omega)]
              exact hno q hq hqs
            · have hnl : (!listed.getD z true) = true := by rw [hnl']; rfl
              have hlt : ((List.range ops.size).filter fun k => !(listed.setIfInBounds z true).getD k true).length < ((List.range ops.size).filter fun k => !listed.getD k true).length := by
                have hsub : ((List.range ops.size).filter fun k => !(listed.setIfInBounds z true).getD k true) = (((List.range ops.size).filter fun k => !listed.getD k true).filter fun k => k != z) := by
                  rw [List.filter_filter]
                  apply List.filter_congr
                  intro k _
                  rw [getD_set hsi]
                  by_cases e : k = z
                  · subst e; simp
                  · simp [e]
                rw [hsub]
                exact List.length_filter_lt_length_iff_exists.2 ⟨z, List.mem_filter.2 ⟨List.mem_range.2 his, hnl⟩, by simp⟩
              omega
          have hlook : ∀ s K, lookK (kz z) s = some K → ∃ j, j < z ∧ dstOf ops j = some s ∧ K = Ks j := fun s K hK => hmem z (by omega) s K (lookK_some hK)
          have hokj : ∀ j, j < m → (Ks j).Ok ∧ (lastY ops exs j = true ∨ (Ks j).OkX g) := by
            intro j hj
            have hjs : j < ops.size := by have := R.le; omega
            obtain ⟨_, _, h1, _⟩ := hall j ops[j] (hat j _ hj (Array.getElem?_eq_getElem hjs))
            exact h1
          have hkN : ∀ w'', Below w'.heap.size w' w'' → ∀ j, j < m → listed.getD j false = true → ∀ u, (Ks j).holds w' u → (Ks j).holds w'' u := fun w'' hB j hj _ u hu => Kd.keep (hokj j hj).1 hu hB
          have hcntN : exs.elem z = false → ∀ w'', Below w'.heap.size w' w'' → ∃ c, c ≤ exs.length ∧ (∀ q, q < exs.length → (listed.setIfInBounds z true).getD (exs.getD q 0) false = decide (q < c)) ∧ J c w'' := by
            intro hx w'' hB
            obtain ⟨c, hc, hq, hj⟩ := hI.cnt
            refine ⟨c, hc, fun q hql => ?_, hJs c _ _ hj hB⟩
            rw [getD_set hsi, if_neg (fun e => by have h1 := hmemE q hql; rw [e, hx] at h1; cases h1)]
            exact hq q hql
          have hgo : ∀ W, w.grownBy W (some g) → leanOn (kz z) W o.op.operands.toList (Goes P (Ks z) o W) a := by
            rcases hob with ⟨_, _, hgo⟩ | ⟨hxx, _, _⟩ | ⟨_, hwk, _⟩
            · exact hgo
            · rw [hzx] at hxx; cases hxx
            · rw [hgn] at hwk; cases hwk
          obtain ⟨b, hb, b1, b2, b3, b4⟩ := leanOn.out (a' := a') (hgo w' hI.ext) hI.size.symm (fun s K hs hK => by
            obtain ⟨j, hj, hdj, rfl⟩ := hlook s K hK
            obtain ⟨o2, ho2, hod2⟩ := dstOf_some hdj
            obtain ⟨s2, hs2, hsn, _⟩ := R.main j o2 (by omega) ho2
            rw [hod2] at hs2
            injection hs2 with hs2
            subst hs2
            obtain ⟨ha, _⟩ := hrd s (by simpa using hs) j (by omega) hdj
            exact ⟨by rw [hI.size]; exact hsn, hI.val j s (by omega) (hon j ha) hdj⟩)
          have heq : execOp a'.eval o = execOp b.eval o := by
            refine execOp_congr o (fun cs bb hc => by rw [hc] at hsel; cases hsel) fun x hx => ?_
            cases x with
            | tmp s =>
              show a'.tmps.getD s undef = b.tmps.getD s undef
              by_cases hks : ∃ K, lookK (kz z) s = some K
              · obtain ⟨K, hK⟩ := hks
                exact (b4 s ⟨K, hK, by simpa using hx⟩).symm
              · have ho2 : ∀ j, j < m → dstOf ops j ≠ some s := by
                  intro j hj hdj
                  obtain ⟨_, hji⟩ := hrd s hx j hj hdj
                  obtain ⟨oj, hoj, hdoj⟩ := dstOf_some hdj
                  have := kz_all hall2 z (by omega) j oj s hji (hat j oj hj hoj) hdoj
                  cases hl : lookK (kz z) s with
                  | some K => exact hks ⟨K, hl⟩
                  | none => exact lookK_none hl _ this
                have e0 := hI.other s ho2
                rcases b3 s with e | e
                · rw [e, e0]
                · exact e.symm
            | const _ => rfl
            | global _ => rfl
            | func _ => rfl
          have hgoes := hb.out
          have hy : ∃ v, (∀ w, (execOp b.eval o).run P w = .ok (.value v) w) ∧ (Ks z).holds w' v := by
            rcases extract_ways (P := P) (ρ := b.eval) hext with ⟨v, hall'⟩ | hnone
            · rw [hall' w'] at hgoes
              exact ⟨v, hall', hgoes.1⟩
            · exfalso
              cases hr : (execOp b.eval o).run P w' with
              | ok n w'' => exact hnone _ _ _ hr
              | halt x w'' => rw [hr] at hgoes; exact hgoes.elim
          obtain ⟨v, hrun, hv⟩ := hy
          refine wpAny_take ho R.nosel (by rw [hlst]; exact R.free) (by rw [hlst]; exact R.rdy) (fun c a w h => hQ t _ c a w (by rw [← ht]; exact h)) (v := v) (.inl ⟨by unfold Region.wanted; rw [hgn], fun w => by rw [heq]; exact hrun w⟩) ?_
          exact hnext v w' hv (ext_refl _ _) (hkN w' (Below.refl _ _)) (hcntN hzx w' (Below.refl _ _))
        · refine ⟨fun hr => ?_, fun i hi => ?_⟩
          · exfalso
            refine hdone ?_
            intro j
            induction j using Nat.strongRecOn with
            | _ j ihj =>
              intro hj
              cases hlj : listed.getD j false with
              | true => rfl
              | false =>
                exfalso
                have hjs : j < ops.size := by have := R.le; omega
                have hmem : j ∈ Region.ready .any ops listed := by
                  rw [mem_ready]
                  refine ⟨by rw [getD_ff (by rw [hI.lsize]; exact hjs)]; exact hlj, ops[j], Array.getElem?_eq_getElem hjs, fun e he hb => ?_⟩
                  have := R.down j _ (Array.getElem?_eq_getElem hjs) e he hb
                  exact ihj _ this (by omega)
                rw [hr] at hmem
                cases hmem
          · have hi0 := hi
            rw [mem_ready] at hi
            obtain ⟨hnl', o, ho, haf⟩ := hi
            have his : i < ops.size := (Array.getElem?_eq_some_iff.1 ho).1
            have hsi : i < listed.size := by rw [hI.lsize]; exact his
            have him : i < m := by
              rcases Nat.lt_or_ge i m with hlt | hge
              · exact hlt
              · exact absurd (fun j hj hjz => all_beforeZ R hI.down hge ho haf (i - j - 1) j (by omega) hjz) hzz
            obtain ⟨t, ht, htn, hne, hsel, hrd, hgd⟩ := R.main i o him ho
            obtain ⟨t', ht', hok, hob, hkz⟩ := hall i o (hat i o him ho)
            have hon : ∀ j, hasOn o j = true → listed.getD j false = true := fun j hj => by
              obtain ⟨e, he, heo, heb⟩ := hasOn_mem hj
              rw [← heo]
              exact haf e he heb
            have hnext : ∀ v w'', (Ks i).holds w'' v → w'.grownBy w'' (some g) → (∀ j, j < m → listed.getD j false = true → ∀ u, (Ks j).holds w' u → (Ks j).holds w'' u) → (∃ c, c ≤ exs.length ∧ (∀ q, q < exs.length → (listed.setIfInBounds i true).getD (exs.getD q 0) false = decide (q < c)) ∧ J c w'') → wpAny P .any ops Q fuel (listed.setIfInBounds i true) (a'.put o.dst v) w'' := by
              intro v w'' hv hb hkeep hcn
              refine ih _ _ _ ⟨by simpa using hI.lsize, ?_, ?_, ext_trans hI.ext hb, hcn, ?_, ?_, ?_⟩ ?_ ?_
              · rw [ht]; exact hI.defers
              · rw [ht]; simpa [Act.put] using hI.size
              · intro s hs
                have hst : s ≠ t := fun e => hs i him (by rw [hd i _ ho, ht, e])
                rw [ht, put_getD (by rw [hI.size]; exact htn), if_neg hst]
                exact hI.other s hs
              · intro j s hjm hj hdj
                rw [getD_set hsi] at hj
                rw [ht, put_getD (by rw [hI.size]; exact htn)]
                by_cases e : j = i
                · subst e
                  have : s = t := by rw [hd j _ ho, ht] at hdj; injection hdj with hdj; exact hdj.symm
                  rw [if_pos this]
                  exact hv
                · rw [if_neg e] at hj
                  have hst : s ≠ t := fun e2 => e (dst_injZ R hjm him hdj (by rw [hd i _ ho, ht, e2]))
                  rw [if_neg hst]
                  exact hkeep j hjm hj _ (hI.val j s hjm hj hdj)
              · intro q oq hq hlq e he hb
                rw [getD_set hsi] at hlq ⊢
                by_cases e1 : q = i
                · subst e1
                  rw [ho] at hq
                  injection hq with hq
                  subst hq
                  split
                  · rfl
                  · exact haf e he hb
                · rw [if_neg e1] at hlq
                  split
                  · rfl
                  · exact hI.down q oq hq hlq e he hb
              · intro q hq hqs
                rw [getD_set hsi, if_neg (by omega)]
                exact hno q hq hqs
              · have hnl : (!listed.getD i true) = true := by rw [hnl']; rfl
                have hlt : ((List.range ops.size).filter fun k => !(listed.setIfInBounds i true).getD k true).length < ((List.range ops.size).filter fun k => !listed.getD k true).length := by
                  have hsub : ((List.range ops.size).filter fun k => !(listed.setIfInBounds i true).getD k true) = (((List.range ops.size).filter fun k => !listed.getD k true).filter fun k => k != i) := by
                    rw [List.filter_filter]
                    apply List.filter_congr
                    intro k _
                    rw [getD_set hsi]
                    by_cases e : k = i
                    · subst e; simp
                    · simp [e]
                  rw [hsub]
                  exact List.length_filter_lt_length_iff_exists.2 ⟨i, List.mem_filter.2 ⟨List.mem_range.2 his, hnl⟩, by simp⟩
                omega
            have hlook : ∀ s K, lookK (kz i) s = some K → ∃ j, j < i ∧ dstOf ops j = some s ∧ K = Ks j := fun s K hK => hmem i (by omega) s K (lookK_some hK)
            have hokj : ∀ j, j < m → (Ks j).Ok ∧ (lastY ops exs j = true ∨ (Ks j).OkX g) := by
              intro j hj
              have hjs : j < ops.size := by have := R.le; omega
              obtain ⟨_, _, h1, _⟩ := hall j ops[j] (hat j _ hj (Array.getElem?_eq_getElem hjs))
              exact h1
            have hkN : ∀ w'', Below w'.heap.size w' w'' → ∀ j, j < m → listed.getD j false = true → ∀ u, (Ks j).holds w' u → (Ks j).holds w'' u := fun w'' hB j hj _ u hu => Kd.keep (hokj j hj).1 hu hB
            have hcntN : exs.elem i = false → ∀ w'', Below w'.heap.size w' w'' → ∃ c, c ≤ exs.length ∧ (∀ q, q < exs.length → (listed.setIfInBounds i true).getD (exs.getD q 0) false = decide (q < c)) ∧ J c w'' := by
              intro hx w'' hB
              obtain ⟨c, hc, hq, hj⟩ := hI.cnt
              refine ⟨c, hc, fun q hql => ?_, hJs c _ _ hj hB⟩
              rw [getD_set hsi, if_neg (fun e => by have h1 := hmemE q hql; rw [e, hx] at h1; cases h1)]
              exact hq q hql
            unfold wpOp
            rw [ho]
            rcases hob with ⟨hxx, hwk, hgo⟩ | ⟨hxx, hwk, hgo⟩ | ⟨hxx, hwk, hskip⟩
            · have hw : Region.wanted o (yielded ops a'.tmps) = true := by
                unfold Region.wanted
                cases hg : o.guard with
                | none => rfl
                | some gb =>
                  obtain ⟨g, b⟩ := gb
                  rw [hg] at hwk
                  unfold wantK at hwk
                  simp only at hwk
                  cases hdg : dstOf ops g with
                  | none => rw [hdg] at hwk; cases hwk
                  | some s =>
                    rw [hdg] at hwk
                    cases hlk : lookK (kz i) s with
                    | none => simp only [hlk] at hwk; cases hwk
                    | some K =>
                      simp only [hlk] at hwk
                      split at hwk
                      · rename_i hKe
                        injection hKe with hKe
                        subst hKe
                        rename_i c
                        obtain ⟨j, hj, hdj, hKj⟩ := hlook s _ hlk
                        obtain ⟨hong, hgi⟩ := hgd g b hg
                        obtain rfl := dst_injZ R (by omega) (by omega) hdj hdg
                        have hv := hI.val j s (by omega) (hon j hong) hdj
                        rw [← hKj] at hv
                        have hy : yielded ops a'.tmps j = some c := by
                          have hv' : a'.tmps.getD s undef = .bool c := hv
                          unfold yielded
                          unfold dstOf at hdj
                          rw [hdj]
                          rw [Array.getD_eq_getD_getElem?] at hv'
                          cases hx : a'.tmps[s]? with
                          | none => rw [hx] at hv'; exact absurd hv' (by simp [undef])
                          | some x =>
                            rw [hx] at hv'
                            simp only [Option.getD_some] at hv'
                            subst hv'
                            simp [hx]
                        simp only [hy]
                        injection hwk
                      · cases hwk
              simp only [hw, if_true]
              refine .inl ?_
              obtain ⟨b, hb, b1, b2, b3, b4⟩ := leanOn.out (a' := a') (hgo w' hI.ext) hI.size.symm (fun s K hs hK => by
                obtain ⟨j, hj, hdj, rfl⟩ := hlook s K hK
                obtain ⟨o2, ho2, hod2⟩ := dstOf_some hdj
                obtain ⟨s2, hs2, hsn, _⟩ := R.main j o2 (by omega) ho2
                rw [hod2] at hs2
                injection hs2 with hs2
                subst hs2
                obtain ⟨ha, _⟩ := hrd s (by simpa using hs) j (by omega) hdj
                exact ⟨by rw [hI.size]; exact hsn, hI.val j s (by omega) (hon j ha) hdj⟩)
              have heq : execOp a'.eval o = execOp b.eval o := by
                refine execOp_congr o (fun cs bb hc => by rw [hc] at hsel; cases hsel) fun x hx => ?_
                cases x with
                | tmp s =>
                  show a'.tmps.getD s undef = b.tmps.getD s undef
                  by_cases hks : ∃ K, lookK (kz i) s = some K
                  · obtain ⟨K, hK⟩ := hks
                    exact (b4 s ⟨K, hK, by simpa using hx⟩).symm
                  · have ho2 : ∀ j, j < m → dstOf ops j ≠ some s := by
                      intro j hj hdj
                      obtain ⟨_, hji⟩ := hrd s hx j hj hdj
                      obtain ⟨oj, hoj, hdoj⟩ := dstOf_some hdj
                      have := kz_all hall2 i (by omega) j oj s hji (hat j oj hj hoj) hdoj
                      cases hl : lookK (kz i) s with
                      | some K => exact hks ⟨K, hl⟩
                      | none => exact lookK_none hl _ this
                    have e0 := hI.other s ho2
                    rcases b3 s with e | e
                    · rw [e, e0]
                    · exact e.symm
                | const _ => rfl
                | global _ => rfl
                | func _ => rfl
              have hgoes := hb.out
              unfold Oper.wp
              rw [heq]
              generalize (execOp b.eval o).run P w' = r at hgoes
              cases r with
              | ok n w'' =>
                cases n <;> simp only [OpGoes] at hgoes <;> try exact hgoes.elim
                case value v => exact hnext v w'' hgoes.1 (ext_below hgoes.2) (hkN _ hgoes.2) (hcntN hxx _ hgoes.2)
                case enter f args =>
                  refine Calls.mono hgoes ?_
                  rintro e w3 ⟨v, rfl, hv, hb⟩
                  exact hnext v w3 hv (ext_below hb) (hkN _ hb) (hcntN hxx _ hb)
              | halt x w'' => exact hgoes.elim
            · obtain ⟨q, hql, hqe⟩ := hidx i hxx
              obtain ⟨c, hc, hqs, hj⟩ := hI.cnt
              obtain ⟨hq1, hq2, hq3⟩ := hex' q hql
              have hqc : q = c := by
                have h1 := hqs q hql
                rw [hqe, ← getD_ff hsi, hnl'] at h1
                have h2 : ¬ q < c := by simpa using h1.symm
                rcases hq3 with h3 | ⟨o3, ho3, hh3⟩
                · omega
                · rw [hqe, ho] at ho3
                  injection ho3 with ho3
                  subst ho3
                  have h4 := hon _ hh3
                  by_cases h0 : q = 0
                  · omega
                  · rw [hqs (q - 1) (by omega)] at h4
                    have : q - 1 < c := by simpa using h4
                    omega
              rw [hqe] at hq2
              rw [hq2, hqc] at hgo
              have hkE : ∀ w'', w'.grownBy w'' (some g) → ∀ j, j < m → listed.getD j false = true → ∀ u, (Ks j).holds w' u → (Ks j).holds w'' u := by
                intro w'' hE j hjm hjl u hu
                rcases (hokj j hjm).2 with h1 | h1
                · exfalso
                  obtain ⟨j', h1, hjl⟩ := lastY_out hI.down h1 hjl
                  have hlast : j' = exs.getD (exs.length - 1) 0 := by
                    unfold lastX at h1
                    rw [List.getLast?_eq_getElem?, List.getElem?_eq_getElem (by omega)] at h1
                    rw [List.getD_eq_getElem?_getD, List.getElem?_eq_getElem (by omega)]
                    simp only [beq_iff_eq] at h1
                    exact h1.symm
                  rw [hlast, hqs _ (by omega)] at hjl
                  have : exs.length - 1 < c := by simpa using hjl
                  omega
                · exact Kd.keepX h1 hu hE
              have hcntE : ∀ w'', J (c + 1) w'' → ∃ c, c ≤ exs.length ∧ (∀ q, q < exs.length → (listed.setIfInBounds i true).getD (exs.getD q 0) false = decide (q < c)) ∧ J c w'' := by
                intro w'' hj2
                refine ⟨c + 1, by omega, fun p hp => ?_, hj2⟩
                rw [getD_set hsi]
                by_cases e : exs.getD p 0 = i
                · have hp2 := (hex' p hp).2.1
                  rw [e, hq2] at hp2
                  rw [if_pos e]
                  have : p < c + 1 := by omega
                  simp [this]
                · rw [if_neg e, hqs p hp]
                  have hpq : p ≠ q := fun h => e (by rw [h]; exact hqe)
                  by_cases hpc : p < c
                  · simp [hpc, Nat.lt_succ_of_lt hpc]
                  · have : ¬ p < c + 1 := by omega
                    simp [hpc, this]
              have hw : Region.wanted o (yielded ops a'.tmps) = true := by
                unfold Region.wanted
                cases hg : o.guard with
                | none => rfl
                | some gb =>
                  obtain ⟨g, b⟩ := gb
                  rw [hg] at hwk
                  unfold wantK at hwk
                  simp only at hwk
                  cases hdg : dstOf ops g with
                  | none => rw [hdg] at hwk; cases hwk
                  | some s =>
                    rw [hdg] at hwk
                    cases hlk : lookK (kz i) s with
                    | none => simp only [hlk] at hwk; cases hwk
                    | some K =>
                      simp only [hlk] at hwk
                      split at hwk
                      · rename_i hKe
                        injection hKe with hKe
                        subst hKe
                        rename_i c
                        obtain ⟨j, hj, hdj, hKj⟩ := hlook s _ hlk
                        obtain ⟨hong, hgi⟩ := hgd g b hg
                        obtain rfl := dst_injZ R (by omega) (by omega) hdj hdg
                        have hv := hI.val j s (by omega) (hon j hong) hdj
                        rw [← hKj] at hv
                        have hy : yielded ops a'.tmps j = some c := by
                          have hv' : a'.tmps.getD s undef = .bool c := hv
                          unfold yielded
                          unfold dstOf at hdj
                          rw [hdj]
                          rw [Array.getD_eq_getD_getElem?] at hv'
                          cases hx : a'.tmps[s]? with
                          | none => rw [hx] at hv'; exact absurd hv' (by simp [undef])
                          | some x =>
                            rw [hx] at hv'
                            simp only [Option.getD_some] at hv'
                            subst hv'
                            simp [hx]
                        simp only [hy]
                        injection hwk
                      · cases hwk
              simp only [hw, if_true]
              refine .inl ?_
              obtain ⟨b, hb, b1, b2, b3, b4⟩ := leanOn.out (a' := a') (hgo w' hI.ext hj) hI.size.symm (fun s K hs hK => by
                obtain ⟨j, hj, hdj, rfl⟩ := hlook s K hK
                obtain ⟨o2, ho2, hod2⟩ := dstOf_some hdj
                obtain ⟨s2, hs2, hsn, _⟩ := R.main j o2 (by omega) ho2
                rw [hod2] at hs2
                injection hs2 with hs2
                subst hs2
                obtain ⟨ha, _⟩ := hrd s (by simpa using hs) j (by omega) hdj
                exact ⟨by rw [hI.size]; exact hsn, hI.val j s (by omega) (hon j ha) hdj⟩)
              have heq : execOp a'.eval o = execOp b.eval o := by
                refine execOp_congr o (fun cs bb hc => by rw [hc] at hsel; cases hsel) fun x hx => ?_
                cases x with
                | tmp s =>
                  show a'.tmps.getD s undef = b.tmps.getD s undef
                  by_cases hks : ∃ K, lookK (kz i) s = some K
                  · obtain ⟨K, hK⟩ := hks
                    exact (b4 s ⟨K, hK, by simpa using hx⟩).symm
                  · have ho2 : ∀ j, j < m → dstOf ops j ≠ some s := by
                      intro j hj hdj
                      obtain ⟨_, hji⟩ := hrd s hx j hj hdj
                      obtain ⟨oj, hoj, hdoj⟩ := dstOf_some hdj
                      have := kz_all hall2 i (by omega) j oj s hji (hat j oj hj hoj) hdoj
                      cases hl : lookK (kz i) s with
                      | some K => exact hks ⟨K, hl⟩
                      | none => exact lookK_none hl _ this
                    have e0 := hI.other s ho2
                    rcases b3 s with e | e
                    · rw [e, e0]
                    · exact e.symm
                | const _ => rfl
                | global _ => rfl
                | func _ => rfl
              have hgoes := hb.out
              unfold Oper.wp
              rw [heq]
              generalize (execOp b.eval o).run P w' = r at hgoes
              cases r with
              | ok n w'' =>
                cases n <;> simp only [OpGoes] at hgoes <;> try exact hgoes.elim
                case value v => exact hnext v w'' hgoes.1 hgoes.2.1 (hkE _ hgoes.2.1) (hcntE _ hgoes.2.2)
                case enter f args =>
                  refine Calls.mono hgoes ?_
                  rintro e w3 ⟨v, rfl, hv, hb, hj3⟩
                  exact hnext v w3 hv hb (hkE _ hb) (hcntE _ hj3)
              | halt x w'' => exact hgoes.elim
            · have hw : Region.wanted o (yielded ops a'.tmps) = false := by
                unfold Region.wanted
                cases hg : o.guard with
                | none => rw [hg] at hwk; cases hwk
                | some gb =>
                  obtain ⟨g, b⟩ := gb
                  rw [hg] at hwk
                  unfold wantK at hwk
                  simp only at hwk
                  cases hdg : dstOf ops g with
                  | none => rw [hdg] at hwk; cases hwk
                  | some s =>
                    rw [hdg] at hwk
                    cases hlk : lookK (kz i) s with
                    | none => simp only [hlk] at hwk; cases hwk
                    | some K =>
                      simp only [hlk] at hwk
                      split at hwk
                      · rename_i hKe
                        injection hKe with hKe
                        subst hKe
                        rename_i c
                        obtain ⟨j, hj, hdj, hKj⟩ := hlook s _ hlk
                        obtain ⟨hong, hgi⟩ := hgd g b hg
                        obtain rfl := dst_injZ R (by omega) (by omega) hdj hdg
                        have hv := hI.val j s (by omega) (hon j hong) hdj
                        rw [← hKj] at hv
                        have hy : yielded ops a'.tmps j = some c := by
                          have hv' : a'.tmps.getD s undef = .bool c := hv
                          unfold yielded
                          unfold dstOf at hdj
                          rw [hdj]
                          rw [Array.getD_eq_getD_getElem?] at hv'
                          cases hx : a'.tmps[s]? with
                          | none => rw [hx] at hv'; exact absurd hv' (by simp [undef])
                          | some x =>
                            rw [hx] at hv'
                            simp only [Option.getD_some] at hv'
                            subst hv'
                            simp [hx]
                        simp only [hy]
                        injection hwk
                      · cases hwk
              simp only [hw]
              exact hnext _ _ (by rw [hskip]; rfl) (ext_refl _ _) (hkN _ (Below.refl _ _)) (hcntN hxx _ (Below.refl _ _))
  refine key ops.size _ a _ ⟨by simp, rfl, rfl, ext_below (Below.drew (Below.refl _ _)), ⟨0, Nat.zero_le _, fun q _ => by simp [Array.getD_eq_getD_getElem?, Array.getElem?_replicate]; split <;> simp, hJs 0 _ _ hJ0 (Below.drew (Below.refl _ _))⟩, fun _ _ => rfl, fun j t _ hj => ?_, fun i o _ hj => ?_⟩ ?_ ?_
  · exfalso
    revert hj
    simp only [Array.getD_eq_getD_getElem?, Array.getElem?_replicate]
    split <;> simp
  · exfalso
    revert hj
    simp only [Array.getD_eq_getD_getElem?, Array.getElem?_replicate]
    split <;> simp
  · intro i _ hi
    simp [Array.getD_eq_getD_getElem?, Array.getElem?_replicate, hi]
  · exact Nat.le_trans (List.length_filter_le _ _) (by simp)
end
set_option maxHeartbeats 4000000
def dL (d : Dgm) : List UInt8 := ([] ++ twos [d.src, d.dst, (8 + (d.dat.length : Int)) % 65536, 0]) ++ d.dat
def dZ (p : Pkt) (d : Dgm) : Int := if psum p 17 (dL d) = 0 then 65535 else psum p 17 (dL d)
def dS (p : Pkt) (d : Dgm) : List UInt8 := if d.bare then dL d else put16 (dL d) 6 (dZ p d)
def dbE (p : Pkt) (d : Dgm) : Int := wiE p (8 + d.dat.length)
def dbP (p : Pkt) (d : Dgm) : Pkt := withP p 17 (dS p d)
theorem dL_len (d : Dgm) : (dL d).length = 8 + d.dat.length := by simp [dL, twos, two]; omega
theorem dS_len (p : Pkt) (d : Dgm) : (dS p d).length = 8 + d.dat.length := by
  unfold dS; split
  · exact dL_len d
  · rw [put16_length, dL_len]
theorem sx_isNew {g B : Nat} {cs : Array Value} {t : TypeId} (hg : g < B) : ∀ w w' v, isNew B cs t w v → w.grownBy w' (some g) → isNew B cs t w' v := fun _ _ _ ⟨b, e, h, k⟩ hE => ⟨b, e, h, k.ext hE (by omega)⟩
theorem dbuild_any (p : Pkt) (hp : p.Ok) (X1 : Option Addr) (m1 j1 : Nat) (X2 : Option Addr) (m2 j2 : Nat) (s : Dgm) (hs : s.Ok) (DA : Option Addr) (dn dc : Nat) (w : World) (k1 : Bs w X1 m1 j1 p.opt) (kd : Bs w DA dn dc s.dat)
    (hdn : dn ≤ 140737488351232) : Calls Try.prog 5 #[(.agg #[.int .u8 (p).tos, .int .u16 (p).id, .bool (p).keep, .int .u8 (p).ttl, .int .u8 (p).proto, .int .u32 (p).src, .int .u32 (p).dst, .slice X1 m1 j1, .slice X2 m2 j2]), (.agg #[.int .u16 (s).src, .int .u16 (s).dst, .bool (s).bare, .slice DA dn dc])] w (WiPost w (dbP p s) (dbE p s)) := by
  obtain ⟨⟨a0, a1⟩, ⟨d0, d1⟩⟩ := hs
  have hTs : 62 ≠ 5 := by decide
  have h77 : 27 ≠ 5 := by decide
  have h78 : 32 ≠ 5 := by decide
  have ld := kd.len
  obtain ⟨z, hz⟩ : ∃ z : Int, (8 + (dn : Int)) % 65536 = z := ⟨_, rfl⟩
  have z0 : 0 ≤ z := by omega
  have z1 : z ≤ 65535 := by omega
  obtain ⟨y, hy⟩ : ∃ y : Int, 8 + (dn : Int) = y := ⟨_, rfl⟩
  have hw8 : IntKind.i64.wrap (8 + (dn : Int)) = y := by rw [IntKind.wrap_i64]; omega
  have hwy : IntKind.u16.wrap y = z := by rw [IntKind.wrap_u16]; omega
  have HL : Hid (([] ++ twos [s.src, s.dst, z, 0]) ++ s.dat = dL s) := by unfold Hid dL; rw [ld, hz]
  have HN : Hid ((dL s).length = 8 + dn) := by unfold Hid; rw [dL_len, ld]
  have HLD := Lib.hid ld
  have HY := Lib.hid hy
  clear ld hz hy
  obtain ⟨k, hk, w1, hw1, P1, S1, Z1, H1, R1⟩ := nwI4 w #[.int .u8 (p).tos, .int .u16 (p).id, .bool (p).keep, .int .u8 (p).ttl, .int .u8 (p).proto, .int .u32 (p).src, .int .u32 (p).dst, .slice X1 m1 j1, .slice X2 m2 j2] 27 #[.int .u16 (s).src, .int .u16 (s).dst, .bool (s).bare, .slice DA dn dc] 32 #[.int .u8 0, .int .u16 0, .bool false, .int .u8 0, .int .u8 0, .int .u32 0, .int .u32 0, .slice none 0 0, .slice none 0 0] 27 #[.slice none 0 0] 62
  have Pc1 := P1.cell
  have Sc1 := S1.cell
  have Zc1 := Z1.cell
  have Hc1 := H1.cell
  have Pl1 := P1.lt
  have Sl1 := S1.lt
  have Zl1 := Z1.lt
  have Hl1 := H1.lt
  go_enter Try.func5, Try.ntmps5
  obtain ⟨g2, hg2⟩ : ∃ g : Nat, w1.heap.size = g := ⟨_, rfl⟩
  obtain ⟨v1, hv1⟩ : ∃ W, w1.alloc (.cells #[.int .u16 s.src, .int .u16 s.dst, .int .u16 z, .int .u16 0] 23) = W := ⟨_, rfl⟩
  have G2 : Blk v1 g2 (u16s [s.src, s.dst, z, 0]) 23 := by rw [← hv1]; exact blk_new w1 _ _ _ hg2
  have Vv : Below w1.heap.size w1 v1 := by first | exact bw1 hv1 | exact bw2 hv1 | exact bw3 hv1 | exact bw4 hv1
  have hk1 : w.heap.size ≤ k := Nat.le_of_eq hk
  have hk2 : k ≤ w.heap.size := Nat.le_of_eq hk.symm
  have zs1 := Vv.size
  have rs1 := R1.size
  have h2 := htwo_any w.heap.size w.heap.size (k + 1 + 1 + 1) #[.slice none 0 0] 62 none 0 0 [] g2 4 4 [s.src, s.dst, z, 0] rfl (by omega) v1 (H1.below Vv) rfl (own_nil _ _ _) (by omega) G2 (by intro x hx; simp at hx; omega) hTs (by omega) (by omega) (Nat.le_refl _) (by omega) (by omega)
  go_wp2_with (go_at_call 18; ((with_reducible refine (h2).mono ?_); rintro e w2 hpost); (obtain ⟨rfl, A2, n2, c2, H2, O2, B2, K2⟩ := hpost.out); simp only [List.setIfInBounds_toArray, List.set_cons_zero] at H2)
  have u2 : n2 = 8 := by rw [← O2.len]; simp [twos, two]
  subst u2
  have R2 := (R1.trans (Vv.mono (by omega))).trans B2
  have P2 := K2 k _ _ h77 (by omega) (P1.below Vv)
  have S2 := K2 (k + 1) _ _ h78 (by omega) (S1.below Vv)
  have Z2 := K2 (k + 1 + 1) _ _ h77 (by omega) (Z1.below Vv)
  obtain ⟨ga, rfl, gb, gl⟩ := O2.ptr (by omega)
  have nP := O2.ne_blk P2 h77 ga rfl
  have nS := O2.ne_blk S2 h78 ga rfl
  have nZ := O2.ne_blk Z2 h77 ga rfl
  have nH := O2.ne_blk H2 hTs ga rfl
  obtain ⟨E, hE'⟩ : ∃ E, dbE p s = E := ⟨_, rfl⟩
  obtain ⟨P, hP⟩ : ∃ P, P = withP p 17 (dL s) := ⟨_, rfl⟩
  have hw2 := fun W A n c k1 k3 hb => swith_all p X1 m1 j1 X2 m2 j2 17 (([] ++ twos [s.src, s.dst, z, 0]) ++ s.dat) P E (by rw [HL.out, dL_len]; exact hE') (by rw [HL.out]; exact hP) w.heap.size A n c W k1 k3 hb
  have HE := Lib.hid hE'
  have HP := Lib.hid hP
  have rs2 := R2.size
  clear hE' hP H1 P1 S1 Z1 Pc1 Sc1 Zc1 Hc1 Pl1 Sl1 Zl1 Hl1 R1 rs1 zs1 Vv G2 hg2 hv1 hw1 hk hpost h2 B2 K2
  refine regionXZ 13 11 [7] ga (fun c W => match c with | 0 => Own W w.heap.size 5 (some ⟨ga, 0, none⟩) 8 c2 ([] ++ twos [s.src, s.dst, z, 0]) | _ + 1 => True) (by kernel_rfl) (by kernel_rfl) (fun _ _ _ _ _ h => h) (by kernel_rfl) (by kernel_rfl) O2 (fun c W W' hj hb => by cases c with | zero => exact Own.below hj hb | succ n => trivial) ?_; (iterate 13 (first | (apply ObsY.skip (by rfl) (by rfl)) | (apply ObsY.v (by rfl) (by rfl); (intro wo hE; (repeat (first | (intro v hv; ((first | (obtain ⟨A7, n7, c7, rfl, o7⟩ := hv) | (obtain ⟨D1, g1, h1', D2, g2', h2', rfl, o13, o14⟩ := hv)))) | (intro _ _ k; try have hcv := cv k))); (have pco := (P2.ext hE (Ne.symm nP)).cell; have sco := (S2.ext hE (Ne.symm nS)).cell; have hco := (H2.ext hE (Ne.symm nH)).cell; have Ro := below_ext R2 hE gb rs2; have xo := k1.below Ro; have yo := kd.below Ro; have hsz := hE.size); refine Goes.mk ?_; first | (exact goes_appX _ _ rfl rfl hj (fun k e => by simp [Value.ownBlock] at e; exact e.symm) rfl yo (by omega) (by omega) (fun _ => trivial)) | (go_simp; first | exact goes_v | (first | exact goes_tup (by assumption) (by assumption) | exact goes_pk (by assumption) (by assumption) | exact goes_new hsz) | (refine goes_enter ?_; first | (go_at_call 19; ((with_reducible refine (hw2 wo A7 n7 c7 xo o7 (by omega)).mono ?_); rintro e w9 ⟨D1, g1, h1', D2, g2', h2', rfl, o13, o14, hB9⟩); exact ret_tup (P := P) o13 o14 hB9))))) | (apply ObsY.p (q := isNew w2.heap.size #[.int .u8 0, .int .u16 0, .bool false, .int .u8 0, .int .u8 0, .int .u32 0, .int .u32 0, .slice none 0 0, .slice none 0 0] 27) (by rfl) (by rfl) st_isNew (sx_isNew gl); (intro wo hE; (repeat (first | (intro v hv; ((first | (obtain ⟨A7, n7, c7, rfl, o7⟩ := hv) | (obtain ⟨D1, g1, h1', D2, g2', h2', rfl, o13, o14⟩ := hv)))) | (intro _ _ k; try have hcv := cv k))); (have pco := (P2.ext hE (Ne.symm nP)).cell; have sco := (S2.ext hE (Ne.symm nS)).cell; have hco := (H2.ext hE (Ne.symm nH)).cell; have Ro := below_ext R2 hE gb rs2; have xo := k1.below Ro; have yo := kd.below Ro; have hsz := hE.size); refine Goes.mk ?_; first | (exact goes_appX _ _ rfl rfl hj (fun k e => by simp [Value.ownBlock] at e; exact e.symm) rfl yo (by omega) (by omega) (fun _ => trivial)) | (go_simp; first | exact goes_v | (first | exact goes_tup (by assumption) (by assumption) | exact goes_pk (by assumption) (by assumption) | exact goes_new hsz) | (refine goes_enter ?_; first | (go_at_call 19; ((with_reducible refine (hw2 wo A7 n7 c7 xo o7 (by omega)).mono ?_); rintro e w9 ⟨D1, g1, h1', D2, g2', h2', rfl, o13, o14, hB9⟩); exact ret_tup (P := P) o13 o14 hB9))))) | (apply ObsY.ev (by rfl) (by rfl); (intro wo hE hj; (repeat (first | (intro v hv; ((first | (obtain ⟨A7, n7, c7, rfl, o7⟩ := hv) | (obtain ⟨D1, g1, h1', D2, g2', h2', rfl, o13, o14⟩ := hv)))) | (intro _ _ k; try have hcv := cv k))); (have pco := (P2.ext hE (Ne.symm nP)).cell; have sco := (S2.ext hE (Ne.symm nS)).cell; have hco := (H2.ext hE (Ne.symm nH)).cell; have Ro := below_ext R2 hE gb rs2; have xo := k1.below Ro; have yo := kd.below Ro; have hsz := hE.size); refine GoesX.mk ?_; first | (exact goes_appX _ _ rfl rfl hj (fun k e => by simp [Value.ownBlock] at e; exact e.symm) rfl yo (by omega) (by omega) (fun _ => trivial)) | (go_simp; first | exact goes_v | (first | exact goes_tup (by assumption) (by assumption) | exact goes_pk (by assumption) (by assumption) | exact goes_new hsz) | (refine goes_enter ?_; first | (go_at_call 19; ((with_reducible refine (hw2 wo A7 n7 c7 xo o7 (by omega)).mono ?_); rintro e w9 ⟨D1, g1, h1', D2, g2', h2', rfl, o13, o14, hB9⟩); exact ret_tup (P := P) o13 o14 hB9))))) | (apply ObsY.ep (q := isW w.heap.size (([] ++ twos [s.src, s.dst, z, 0]) ++ s.dat)) (by rfl) (by rfl) (by rfl) st_isW; (intro wo hE hj; (repeat (first | (intro v hv; ((first | (obtain ⟨A7, n7, c7, rfl, o7⟩ := hv) | (obtain ⟨D1, g1, h1', D2, g2', h2', rfl, o13, o14⟩ := hv)))) | (intro _ _ k; try have hcv := cv k))); (have pco := (P2.ext hE (Ne.symm nP)).cell; have sco := (S2.ext hE (Ne.symm nS)).cell; have hco := (H2.ext hE (Ne.symm nH)).cell; have Ro := below_ext R2 hE gb rs2; have xo := k1.below Ro; have yo := kd.below Ro; have hsz := hE.size); refine GoesX.mk ?_; first | (exact goes_appX _ _ rfl rfl hj (fun k e => by simp [Value.ownBlock] at e; exact e.symm) rfl yo (by omega) (by omega) (fun _ => trivial)) | (go_simp; first | exact goes_v | (first | exact goes_tup (by assumption) (by assumption) | exact goes_pk (by assumption) (by assumption) | exact goes_new hsz) | (refine goes_enter ?_; first | (go_at_call 19; ((with_reducible refine (hw2 wo A7 n7 c7 xo o7 (by omega)).mono ?_); rintro e w9 ⟨D1, g1, h1', D2, g2', h2', rfl, o13, o14, hB9⟩); exact ret_tup (P := P) o13 o14 hB9))))) | (apply ObsY.ep (q := isTup w.heap.size P E) (by rfl) (by rfl) (by rfl) st_isTup; (intro wo hE hj; (repeat (first | (intro v hv; ((first | (obtain ⟨A7, n7, c7, rfl, o7⟩ := hv) | (obtain ⟨D1, g1, h1', D2, g2', h2', rfl, o13, o14⟩ := hv)))) | (intro _ _ k; try have hcv := cv k))); (have pco := (P2.ext hE (Ne.symm nP)).cell; have sco := (S2.ext hE (Ne.symm nS)).cell; have hco := (H2.ext hE (Ne.symm nH)).cell; have Ro := below_ext R2 hE gb rs2; have xo := k1.below Ro; have yo := kd.below Ro; have hsz := hE.size); refine GoesX.mk ?_; first | (exact goes_appX _ _ rfl rfl hj (fun k e => by simp [Value.ownBlock] at e; exact e.symm) rfl yo (by omega) (by omega) (fun _ => trivial)) | (go_simp; first | exact goes_v | (first | exact goes_tup (by assumption) (by assumption) | exact goes_pk (by assumption) (by assumption) | exact goes_new hsz) | (refine goes_enter ?_; first | (go_at_call 19; ((with_reducible refine (hw2 wo A7 n7 c7 xo o7 (by omega)).mono ?_); rintro e w9 ⟨D1, g1, h1', D2, g2', h2', rfl, o13, o14, hB9⟩); exact ret_tup (P := P) o13 o14 hB9))))) | (apply ObsY.ep (q := isPk w.heap.size P) (by rfl) (by rfl) (by rfl) st_isPk; (intro wo hE hj; (repeat (first | (intro v hv; ((first | (obtain ⟨A7, n7, c7, rfl, o7⟩ := hv) | (obtain ⟨D1, g1, h1', D2, g2', h2', rfl, o13, o14⟩ := hv)))) | (intro _ _ k; try have hcv := cv k))); (have pco := (P2.ext hE (Ne.symm nP)).cell; have sco := (S2.ext hE (Ne.symm nS)).cell; have hco := (H2.ext hE (Ne.symm nH)).cell; have Ro := below_ext R2 hE gb rs2; have xo := k1.below Ro; have yo := kd.below Ro; have hsz := hE.size); refine GoesX.mk ?_; first | (exact goes_appX _ _ rfl rfl hj (fun k e => by simp [Value.ownBlock] at e; exact e.symm) rfl yo (by omega) (by omega) (fun _ => trivial)) | (go_simp; first | exact goes_v | (first | exact goes_tup (by assumption) (by assumption) | exact goes_pk (by assumption) (by assumption) | exact goes_new hsz) | (refine goes_enter ?_; first | (go_at_call 19; ((with_reducible refine (hw2 wo A7 n7 c7 xo o7 (by omega)).mono ?_); rintro e w9 ⟨D1, g1, h1', D2, g2', h2', rfl, o13, o14, hB9⟩); exact ret_tup (P := P) o13 o14 hB9))))) | (apply ObsY.ep (q := isNew w2.heap.size #[.int .u8 0, .int .u16 0, .bool false, .int .u8 0, .int .u8 0, .int .u32 0, .int .u32 0, .slice none 0 0, .slice none 0 0] 27) (by rfl) (by rfl) (by rfl) st_isNew; (intro wo hE hj; (repeat (first | (intro v hv; ((first | (obtain ⟨A7, n7, c7, rfl, o7⟩ := hv) | (obtain ⟨D1, g1, h1', D2, g2', h2', rfl, o13, o14⟩ := hv)))) | (intro _ _ k; try have hcv := cv k))); (have pco := (P2.ext hE (Ne.symm nP)).cell; have sco := (S2.ext hE (Ne.symm nS)).cell; have hco := (H2.ext hE (Ne.symm nH)).cell; have Ro := below_ext R2 hE gb rs2; have xo := k1.below Ro; have yo := kd.below Ro; have hsz := hE.size); refine GoesX.mk ?_; first | (exact goes_appX _ _ rfl rfl hj (fun k e => by simp [Value.ownBlock] at e; exact e.symm) rfl yo (by omega) (by omega) (fun _ => trivial)) | (go_simp; first | exact goes_v | (first | exact goes_tup (by assumption) (by assumption) | exact goes_pk (by assumption) (by assumption) | exact goes_new hsz) | (refine goes_enter ?_; first | (go_at_call 19; ((with_reducible refine (hw2 wo A7 n7 c7 xo o7 (by omega)).mono ?_); rintro e w9 ⟨D1, g1, h1', D2, g2', h2', rfl, o13, o14, hB9⟩); exact ret_tup (P := P) o13 o14 hB9))))) | (apply ObsY.ap (q := isW w.heap.size (([] ++ twos [s.src, s.dst, z, 0]) ++ s.dat)) (by rfl) (by rfl) (by kernel_rfl) st_isW; (intro wo hE; (repeat (first | (intro v hv; ((first | (obtain ⟨A7, n7, c7, rfl, o7⟩ := hv) | (obtain ⟨D1, g1, h1', D2, g2', h2', rfl, o13, o14⟩ := hv)))) | (intro _ _ k; try have hcv := cv k))); (have pco := (P2.ext hE (Ne.symm nP)).cell; have sco := (S2.ext hE (Ne.symm nS)).cell; have hco := (H2.ext hE (Ne.symm nH)).cell; have Ro := below_ext R2 hE gb rs2; have xo := k1.below Ro; have yo := kd.below Ro; have hsz := hE.size); refine Goes.mk ?_; first | (exact goes_appX _ _ rfl rfl hj (fun k e => by simp [Value.ownBlock] at e; exact e.symm) rfl yo (by omega) (by omega) (fun _ => trivial)) | (go_simp; first | exact goes_v | (first | exact goes_tup (by assumption) (by assumption) | exact goes_pk (by assumption) (by assumption) | exact goes_new hsz) | (refine goes_enter ?_; first | (go_at_call 19; ((with_reducible refine (hw2 wo A7 n7 c7 xo o7 (by omega)).mono ?_); rintro e w9 ⟨D1, g1, h1', D2, g2', h2', rfl, o13, o14, hB9⟩); exact ret_tup (P := P) o13 o14 hB9))))) | (apply ObsY.ap (q := isTup w.heap.size P E) (by rfl) (by rfl) (by kernel_rfl) st_isTup; (intro wo hE; (repeat (first | (intro v hv; ((first | (obtain ⟨A7, n7, c7, rfl, o7⟩ := hv) | (obtain ⟨D1, g1, h1', D2, g2', h2', rfl, o13, o14⟩ := hv)))) | (intro _ _ k; try have hcv := cv k))); (have pco := (P2.ext hE (Ne.symm nP)).cell; have sco := (S2.ext hE (Ne.symm nS)).cell; have hco := (H2.ext hE (Ne.symm nH)).cell; have Ro := below_ext R2 hE gb rs2; have xo := k1.below Ro; have yo := kd.below Ro; have hsz := hE.size); refine Goes.mk ?_; first | (exact goes_appX _ _ rfl rfl hj (fun k e => by simp [Value.ownBlock] at e; exact e.symm) rfl yo (by omega) (by omega) (fun _ => trivial)) | (go_simp; first | exact goes_v | (first | exact goes_tup (by assumption) (by assumption) | exact goes_pk (by assumption) (by assumption) | exact goes_new hsz) | (refine goes_enter ?_; first | (go_at_call 19; ((with_reducible refine (hw2 wo A7 n7 c7 xo o7 (by omega)).mono ?_); rintro e w9 ⟨D1, g1, h1', D2, g2', h2', rfl, o13, o14, hB9⟩); exact ret_tup (P := P) o13 o14 hB9))))) | (apply ObsY.ap (q := isPk w.heap.size P) (by rfl) (by rfl) (by kernel_rfl) st_isPk; (intro wo hE; (repeat (first | (intro v hv; ((first | (obtain ⟨A7, n7, c7, rfl, o7⟩ := hv) | (obtain ⟨D1, g1, h1', D2, g2', h2', rfl, o13, o14⟩ := hv)))) | (intro _ _ k; try have hcv := cv k))); (have pco := (P2.ext hE (Ne.symm nP)).cell; have sco := (S2.ext hE (Ne.symm nS)).cell; have hco := (H2.ext hE (Ne.symm nH)).cell; have Ro := below_ext R2 hE gb rs2; have xo := k1.below Ro; have yo := kd.below Ro; have hsz := hE.size); refine Goes.mk ?_; first | (exact goes_appX _ _ rfl rfl hj (fun k e => by simp [Value.ownBlock] at e; exact e.symm) rfl yo (by omega) (by omega) (fun _ => trivial)) | (go_simp; first | exact goes_v | (first | exact goes_tup (by assumption) (by assumption) | exact goes_pk (by assumption) (by assumption) | exact goes_new hsz) | (refine goes_enter ?_; first | (go_at_call 19; ((with_reducible refine (hw2 wo A7 n7 c7 xo o7 (by omega)).mono ?_); rintro e w9 ⟨D1, g1, h1', D2, g2', h2', rfl, o13, o14, hB9⟩); exact ret_tup (P := P) o13 o14 hB9))))) | (apply ObsY.ap (q := isNew w2.heap.size #[.int .u8 0, .int .u16 0, .bool false, .int .u8 0, .int .u8 0, .int .u32 0, .int .u32 0, .slice none 0 0, .slice none 0 0] 27) (by rfl) (by rfl) (by kernel_rfl) st_isNew; (intro wo hE; (repeat (first | (intro v hv; ((first | (obtain ⟨A7, n7, c7, rfl, o7⟩ := hv) | (obtain ⟨D1, g1, h1', D2, g2', h2', rfl, o13, o14⟩ := hv)))) | (intro _ _ k; try have hcv := cv k))); (have pco := (P2.ext hE (Ne.symm nP)).cell; have sco := (S2.ext hE (Ne.symm nS)).cell; have hco := (H2.ext hE (Ne.symm nH)).cell; have Ro := below_ext R2 hE gb rs2; have xo := k1.below Ro; have yo := kd.below Ro; have hsz := hE.size); refine Goes.mk ?_; first | (exact goes_appX _ _ rfl rfl hj (fun k e => by simp [Value.ownBlock] at e; exact e.symm) rfl yo (by omega) (by omega) (fun _ => trivial)) | (go_simp; first | exact goes_v | (first | exact goes_tup (by assumption) (by assumption) | exact goes_pk (by assumption) (by assumption) | exact goes_new hsz) | (refine goes_enter ?_; first | (go_at_call 19; ((with_reducible refine (hw2 wo A7 n7 c7 xo o7 (by omega)).mono ?_); rintro e w9 ⟨D1, g1, h1', D2, g2', h2', rfl, o13, o14, hB9⟩); exact ret_tup (P := P) o13 o14 hB9))))))); refine ObsY.nil ?_; intro wz hEz hJz; simp only [finOn, List.drop_succ_cons, List.drop_zero, List.drop_nil]
  rintro v12 ⟨gq, rfl, hgq, Q⟩ v10 ⟨D1, g1, h1', D2, g2', h2', rfl, O13, O14⟩ v9 hv9 v8 hv8 v7 hv7
  go_simp
  clear hv9 hv8 hv7
  have Q7 := Q.cell
  have Z7 := Z2.ext hEz (Ne.symm nZ)
  have S7 := S2.ext hEz (Ne.symm nS)
  have R7 := below_ext R2 hEz gb rs2
  have qneZ : k + 1 + 1 ≠ gq := by have := Z2.lt; omega
  have qneS : k + 1 ≠ gq := by have := S2.lt; omega
  obtain ⟨wf, hwf, Sf⟩ := store9 Q (.int .u8 P.tos) (.int .u16 P.id) (.bool P.keep) (.int .u8 P.ttl) (.int .u8 P.proto) (.int .u32 P.src) (.int .u32 P.dst) (.slice D1 g1 h1') (.slice D2 g2' h2')
  have Qf := Sf.blk
  have Zf := Sf.other qneZ Z7
  have Sgf := Sf.other qneS S7
  have Of := Sf.own O13 (fun a e => O13.ne_blk Q h77 a.block (by rw [e]; rfl))
  have Df := Sf.own O14 (fun a e => O14.ne_blk Q h77 a.block (by rw [e]; rfl))
  have Rf := Sf.bel R7 (by omega)
  have qcf := Qf.cell
  have zcf := Zf.cell
  have scf := Sgf.cell
  clear Sf O13 O14
  by_cases hE0 : E = 0
  · subst hE0
    rcases Bool.eq_false_or_eq_true s.bare with hb | hb
    · have HPP : Hid (dbP p s = P) := by unfold Hid dbP dS; rw [hb, if_pos rfl]; exact HP.out.symm
      clear hw2
      go_wp2_with fail
      obtain ⟨wh, hwh, Sh⟩ := store9 Zf (.int .u8 P.tos) (.int .u16 P.id) (.bool P.keep) (.int .u8 P.ttl) (.int .u8 P.proto) (.int .u32 P.src) (.int .u32 P.dst) (.slice D1 g1 h1') (.slice D2 g2' h2')
      rw [hwh]
      have ph := Sh.blk.cell
      have Oh := Sh.own Of (fun a e => Of.ne_blk Zf h77 a.block (by rw [e]; rfl))
      have Dh := Sh.own Df (fun a e => Df.ne_blk Zf h77 a.block (by rw [e]; rfl))
      exact bodyPost_ret (v := .tuple #[(.agg #[.int .u8 (P).tos, .int .u16 (P).id, .bool (P).keep, .int .u8 (P).ttl, .int .u8 (P).proto, .int .u32 (P).src, .int .u32 (P).dst, .slice D1 g1 h1', .slice D2 g2' h2']), .int .i64 0]) (by simp [results, Try.results5, go_sem, ph]) rfl (by rw [HE.out, HPP.out]; exact ⟨⟨D1, g1, h1', D2, g2', h2', rfl, Oh, Dh, Sh.bel Rf (by omega)⟩⟩)
    · have hp1 : P = { p with proto := 17, dat := dL s } := by rw [HP.out]; unfold withP; rw [dL_len, show wiE p (8 + s.dat.length) = 0 from HE.out, if_pos rfl]
      have HPP : Hid (dbP p s = { p with proto := 17, dat := dS p s }) := by unfold Hid dbP withP; rw [dS_len, show wiE p (8 + s.dat.length) = 0 from HE.out, if_pos rfl]
      clear HP hw2
      subst hp1
      have hp' : ({ p with proto := 17, dat := dL s } : Pkt).Ok := by
        obtain ⟨e1, e2, e3, e4, e5, e6⟩ := hp
        exact ⟨e1, e2, e3, ⟨by show (0 : Int) ≤ 17; omega, by show (17 : Int) ≤ 255; omega⟩, e5, e6⟩
      have Dfb := Df.bs
      have g1b : g2' ≤ 140737488400000 := by
        have h1 := Df.len
        have h2 : (dL s).length = g2' := h1
        rw [HN.out] at h2
        omega
      obtain ⟨zz, hzz⟩ : ∃ z, psum p 17 (dL s) = z := ⟨_, rfl⟩
      have zz0 : 0 ≤ zz := by rw [← hzz]; exact csum_lo _
      have zz1 : zz ≤ 65535 := by rw [← hzz]; exact csum_hi _
      have hsum : ∀ W, Bs W D2 g2' h2' (dL s) → Calls Try.prog 20 #[(.agg #[.int .u8 ({ p with proto := 17, dat := dL s }).tos, .int .u16 ({ p with proto := 17, dat := dL s }).id, .bool ({ p with proto := 17, dat := dL s }).keep, .int .u8 ({ p with proto := 17, dat := dL s }).ttl, .int .u8 ({ p with proto := 17, dat := dL s }).proto, .int .u32 ({ p with proto := 17, dat := dL s }).src, .int .u32 ({ p with proto := 17, dat := dL s }).dst, .slice D1 g1 h1', .slice D2 g2' h2']), .int .u8 17, .slice D2 g2' h2'] W fun e w' => e = .returned (.int .u16 zz) ∧ Below W.heap.size W w' := fun W bo => by
        have := ssum_any { p with proto := 17, dat := dL s } hp' D1 g1 h1' D2 g2' h2' 17 (by omega) (by omega) D2 g2' h2' (dL s) W bo g1b
        rw [← hzz]
        exact this
      clear hp' hp
      by_cases hz0 : zz = 0
      · subst hz0
        have HS : Hid (put16 (dL s) 6 65535 = dS p s) := by unfold Hid dS dZ; rw [hb, hzz]; rfl
        clear hzz
        go_wp2_with (first
        | (go_at_call 20; ((with_reducible refine (hsum wf Dfb).mono ?_); rintro e w8 ⟨rfl, hB8⟩); have Q8 := Qf.below hB8; have Z8 := Zf.below hB8; have O8 := Of.below hB8; have D8b := Dfb.below hB8; have R8 := Rf.trans (hB8.mono Rf.size); have q8 := Q8.cell)
        | (go_at_call 21; ((with_reducible refine (put16_any D2 g2' h2' (dL s) 6 65535 (by omega) (by omega) w8 D8b).mono ?_); rintro e w9 ⟨A9, c9, rfl, O9, hB9⟩); rw [HS.out] at O9; have Q9 := Q8.below hB9; have q9 := Q9.cell; have Z9 := Z8.below hB9; have OP9 := O8.below hB9; have R9 := R8.trans (hB9.mono R8.size); have O9' := O9.mono R8.size; (obtain ⟨wg, hwg, Sg⟩ := store1 Q9 8 (.slice A9 g2' c9)); simp only [List.setIfInBounds_toArray, List.set_cons_zero, List.set_cons_succ] at Sg; have qg := Sg.blk.cell; have Zg := Sg.other qneZ Z9; have zg := Zg.cell; have Og := Sg.own OP9 (fun a e => OP9.ne_blk Q9 h77 a.block (by rw [e]; rfl)); have Dg := Sg.own O9' (fun a e => O9'.ne_blk Q9 h77 a.block (by rw [e]; rfl)); have Rg := Sg.bel R9 (by omega)))
        obtain ⟨wh, hwh, Sh⟩ := store9 Zg (.int .u8 p.tos) (.int .u16 p.id) (.bool p.keep) (.int .u8 p.ttl) (.int .u8 17) (.int .u32 p.src) (.int .u32 p.dst) (.slice D1 g1 h1') (.slice A9 g2' c9)
        rw [hwh]
        have ph := Sh.blk.cell
        have Oh := Sh.own Og (fun a e => Og.ne_blk Zg h77 a.block (by rw [e]; rfl))
        have Dh := Sh.own Dg (fun a e => Dg.ne_blk Zg h77 a.block (by rw [e]; rfl))
        exact bodyPost_ret (v := .tuple #[.agg #[.int .u8 p.tos, .int .u16 p.id, .bool p.keep, .int .u8 p.ttl, .int .u8 17, .int .u32 p.src, .int .u32 p.dst, .slice D1 g1 h1', .slice A9 g2' c9], .int .i64 0]) (by simp [results, Try.results5, go_sem, ph]) rfl (by rw [HE.out, HPP.out]; exact ⟨⟨D1, g1, h1', A9, g2', c9, rfl, Oh, Dh, Sh.bel Rg (by omega)⟩⟩)
      · have HS : Hid (put16 (dL s) 6 zz = dS p s) := by unfold Hid dS dZ; rw [hb, hzz, if_neg hz0]; rfl
        have z0b : (zz == 0) = false := by simpa using hz0
        clear hzz
        go_wp2_with (first
        | (go_at_call 20; ((with_reducible refine (hsum wf Dfb).mono ?_); rintro e w8 ⟨rfl, hB8⟩); have Q8 := Qf.below hB8; have Z8 := Zf.below hB8; have O8 := Of.below hB8; have D8b := Dfb.below hB8; have R8 := Rf.trans (hB8.mono Rf.size); have q8 := Q8.cell)
        | (go_at_call 21; ((with_reducible refine (put16_any D2 g2' h2' (dL s) 6 zz zz0 zz1 w8 D8b).mono ?_); rintro e w9 ⟨A9, c9, rfl, O9, hB9⟩); rw [HS.out] at O9; have Q9 := Q8.below hB9; have q9 := Q9.cell; have Z9 := Z8.below hB9; have OP9 := O8.below hB9; have R9 := R8.trans (hB9.mono R8.size); have O9' := O9.mono R8.size; (obtain ⟨wg, hwg, Sg⟩ := store1 Q9 8 (.slice A9 g2' c9)); simp only [List.setIfInBounds_toArray, List.set_cons_zero, List.set_cons_succ] at Sg; have qg := Sg.blk.cell; have Zg := Sg.other qneZ Z9; have zg := Zg.cell; have Og := Sg.own OP9 (fun a e => OP9.ne_blk Q9 h77 a.block (by rw [e]; rfl)); have Dg := Sg.own O9' (fun a e => O9'.ne_blk Q9 h77 a.block (by rw [e]; rfl)); have Rg := Sg.bel R9 (by omega)))
        obtain ⟨wh, hwh, Sh⟩ := store9 Zg (.int .u8 p.tos) (.int .u16 p.id) (.bool p.keep) (.int .u8 p.ttl) (.int .u8 17) (.int .u32 p.src) (.int .u32 p.dst) (.slice D1 g1 h1') (.slice A9 g2' c9)
        rw [hwh]
        have ph := Sh.blk.cell
        have Oh := Sh.own Og (fun a e => Og.ne_blk Zg h77 a.block (by rw [e]; rfl))
        have Dh := Sh.own Dg (fun a e => Dg.ne_blk Zg h77 a.block (by rw [e]; rfl))
        exact bodyPost_ret (v := .tuple #[.agg #[.int .u8 p.tos, .int .u16 p.id, .bool p.keep, .int .u8 p.ttl, .int .u8 17, .int .u32 p.src, .int .u32 p.dst, .slice D1 g1 h1', .slice A9 g2' c9], .int .i64 0]) (by simp [results, Try.results5, go_sem, ph]) rfl (by rw [HE.out, HPP.out]; exact ⟨⟨D1, g1, h1', A9, g2', c9, rfl, Oh, Dh, Sh.bel Rg (by omega)⟩⟩)
  · have HPP : Hid (dbP p s = P) := by
      have h1 : wiE p (8 + s.dat.length) ≠ 0 := by rw [show wiE p (8 + s.dat.length) = E from HE.out]; exact hE0
      unfold Hid dbP withP
      rw [dS_len, if_neg h1, HP.out]
      unfold withP
      rw [dL_len, if_neg h1]
    have e0 : (E == 0) = false := by simpa using hE0
    have e1 : decide (E = 0) = false := by simpa using hE0
    clear hw2
    go_wp2_with fail
    obtain ⟨wh, hwh, Sh⟩ := store9 Zf (.int .u8 P.tos) (.int .u16 P.id) (.bool P.keep) (.int .u8 P.ttl) (.int .u8 P.proto) (.int .u32 P.src) (.int .u32 P.dst) (.slice D1 g1 h1') (.slice D2 g2' h2')
    rw [hwh]
    have ph := Sh.blk.cell
    have Oh := Sh.own Of (fun a e => Of.ne_blk Zf h77 a.block (by rw [e]; rfl))
    have Dh := Sh.own Df (fun a e => Df.ne_blk Zf h77 a.block (by rw [e]; rfl))
    exact bodyPost_ret (v := .tuple #[(.agg #[.int .u8 (P).tos, .int .u16 (P).id, .bool (P).keep, .int .u8 (P).ttl, .int .u8 (P).proto, .int .u32 (P).src, .int .u32 (P).dst, .slice D1 g1 h1', .slice D2 g2' h2']), .int .i64 E]) (by simp [results, Try.results5, go_sem, ph]) rfl (by rw [HE.out, HPP.out]; exact ⟨⟨D1, g1, h1', D2, g2', h2', rfl, Oh, Dh, Sh.bel Rf (by omega)⟩⟩)
theorem pseudo_len (s d p n : Int) : (pseudo s d p n).length = 12 := rfl
theorem put16_behind {a b : List UInt8} {i : Nat} {v : Int} (h : i + 2 ≤ b.length) : put16 (a ++ b) ((a.length + i : Nat) : Int) v = a ++ put16 b i v := by
  rw [put16_eq (by rw [List.length_append]; omega), put16_eq h, List.set_append_right _ _ (by omega), List.set_append_right _ _ (by omega)]
  rw [show a.length + i - a.length = i from by omega, show a.length + i + 1 - a.length = i + 1 from by omega]
theorem psum_z {p : Pkt} {pr : Int} {l : List UInt8} {j : Nat} (h : 2 * j + 2 ≤ l.length) (h0 : wd l j = 0) (v : Int) (v0 : 0 ≤ v) (v1 : v ≤ 65535) :
    psum p pr (put16 l (2 * j : Nat) v) = csum (put16 (pseudo p.src p.dst pr l.length ++ l) (2 * (6 + j) : Nat) v) ∧ 2 * (6 + j) + 2 ≤ (pseudo p.src p.dst pr l.length ++ l).length ∧ wd (pseudo p.src p.dst pr l.length ++ l) (6 + j) = 0 := by
  refine ⟨?_, by rw [List.length_append, pseudo_len]; omega, ?_⟩
  · unfold psum
    rw [put16_length, show (2 * (6 + j) : Nat) = (pseudo p.src p.dst pr l.length).length + 2 * j from by rw [pseudo_len]; omega, put16_behind h]
  · rw [wd_append_right (m := 6) _ rfl]; exact h0
theorem psum_good {p : Pkt} {pr : Int} {l : List UInt8} {j : Nat} (h : 2 * j + 2 ≤ l.length) (h0 : wd l j = 0) : psum p pr (put16 l (2 * j : Nat) (psum p pr l)) = 0 := by
  obtain ⟨e, h1, h2⟩ := psum_z (p := p) (pr := pr) h h0 (psum p pr l) (csum_lo _) (csum_hi _)
  rw [e]
  exact good_put h1 h2
theorem psum_good2 {p : Pkt} {pr : Int} {l : List UInt8} {j : Nat} (h : 2 * j + 2 ≤ l.length) (h0 : wd l j = 0) (hs : psum p pr l = 0) : psum p pr (put16 l (2 * j : Nat) 65535) = 0 := by
  obtain ⟨e, h1, h2⟩ := psum_z (p := p) (pr := pr) h h0 65535 (by omega) (by omega)
  rw [e]
  obtain ⟨t1, t2⟩ := (csum_zero _).1 hs
  rw [csum_zero, ws_put16 (by omega) (by omega) h1, h2]
  have t3 := ws_lo (pseudo p.src p.dst pr l.length ++ l)
  generalize ws (pseudo p.src p.dst pr l.length ++ l) = W at t1 t2 t3 ⊢
  exact ⟨by omega, by omega⟩
theorem wiE_zero {p : Pkt} {n : Nat} (h : wiE p n = 0) : p.opt.length ≤ 40 ∧ p.opt.length % 4 = 0 ∧ 20 + p.opt.length + n ≤ 65535 := by
  unfold wiE at h
  split at h
  · omega
  · split at h <;> omega
theorem dL_at {d : Dgm} (hd : d.Ok) (h : 8 + d.dat.length ≤ 65535) : get16 (dL d) 0 = d.src ∧ get16 (dL d) 2 = d.dst ∧ get16 (dL d) 4 = 8 + (d.dat.length : Int) ∧ get16 (dL d) 6 = 0 ∧ (dL d).drop 8 = d.dat := by
  obtain ⟨⟨a0, a1⟩, ⟨b0, b1⟩⟩ := hd
  have e : dL d = [ub (d.src / 256), ub d.src, ub (d.dst / 256), ub d.dst, ub ((8 + (d.dat.length : Int)) % 65536 / 256), ub ((8 + (d.dat.length : Int)) % 65536), ub (0 / 256), ub 0] ++ d.dat := by simp [dL, twos, two]
  rw [e]
  have hl : ([ub (d.src / 256), ub d.src, ub (d.dst / 256), ub d.dst, ub ((8 + (d.dat.length : Int)) % 65536 / 256), ub ((8 + (d.dat.length : Int)) % 65536), ub (0 / 256), ub 0] ++ d.dat).length = 8 + d.dat.length := by simp; omega
  refine ⟨?_, ?_, ?_, ?_, ?_⟩
  · rw [get16_in (by omega) (by omega)]
    show ((ub _).toNat : Int) * 256 + ((ub _).toNat : Int) = _
    rw [ub_val, ub_val]; omega
  · rw [get16_in (by omega) (by omega)]
    show ((ub _).toNat : Int) * 256 + ((ub _).toNat : Int) = _
    rw [ub_val, ub_val]; omega
  · rw [get16_in (by omega) (by omega)]
    show ((ub _).toNat : Int) * 256 + ((ub _).toNat : Int) = _
    rw [ub_val, ub_val]; omega
  · rw [get16_in (by omega) (by omega)]
    show ((ub _).toNat : Int) * 256 + ((ub _).toNat : Int) = _
    rw [ub_val, ub_val]; omega
  · exact List.drop_left' (by simp)
theorem dZ_ok (p : Pkt) (d : Dgm) : 1 ≤ dZ p d ∧ dZ p d ≤ 65535 := by
  have h0 := csum_lo (pseudo p.src p.dst 17 (dL d).length ++ dL d)
  have h1 := csum_hi (pseudo p.src p.dst 17 (dL d).length ++ dL d)
  have e : dZ p d = if csum (pseudo p.src p.dst 17 (dL d).length ++ dL d) = 0 then 65535 else csum (pseudo p.src p.dst 17 (dL d).length ++ dL d) := rfl
  rw [e]
  split <;> omega
theorem dL_wd {d : Dgm} (hd : d.Ok) (h : 8 + d.dat.length ≤ 65535) : wd (dL d) 3 = 0 := by
  have := (dL_at hd h).2.2.2.1
  rw [← get16_wd (l := dL d) (j := 3) (by rw [dL_len]; omega)]
  exact this
theorem dS_sum {p : Pkt} {d : Dgm} (hd : d.Ok) (h : 8 + d.dat.length ≤ 65535) (hb : d.bare = false) : psum p 17 (dS p d) = 0 := by
  have hl : 2 * 3 + 2 ≤ (dL d).length := by rw [dL_len]; omega
  unfold dS
  rw [hb]
  show psum p 17 (put16 (dL d) ((2 * 3 : Nat) : Int) (dZ p d)) = 0
  unfold dZ
  split
  · rename_i h0; exact psum_good2 hl (dL_wd hd h) h0
  · exact psum_good hl (dL_wd hd h)
theorem dS_at {p : Pkt} {d : Dgm} (hd : d.Ok) (h : 8 + d.dat.length ≤ 65535) : get16 (dS p d) 0 = d.src ∧ get16 (dS p d) 2 = d.dst ∧ get16 (dS p d) 4 = 8 + (d.dat.length : Int) ∧ (get16 (dS p d) 6 == 0) = d.bare ∧ (dS p d).drop 8 = d.dat := by
  obtain ⟨h0, h2, h4, h6, h8⟩ := dL_at hd h
  have hl := dL_len d
  obtain ⟨z0, z1⟩ := dZ_ok p d
  unfold dS
  cases hb : d.bare with
  | true => exact ⟨h0, h2, h4, by simpa using h6, h8⟩
  | false =>
    show get16 (put16 (dL d) ((6 : Nat) : Int) (dZ p d)) ((0 : Nat) : Int) = _ ∧ get16 (put16 (dL d) ((6 : Nat) : Int) (dZ p d)) ((2 : Nat) : Int) = _ ∧ get16 (put16 (dL d) ((6 : Nat) : Int) (dZ p d)) ((4 : Nat) : Int) = _ ∧ (get16 (put16 (dL d) ((6 : Nat) : Int) (dZ p d)) ((6 : Nat) : Int) == 0) = _ ∧ (put16 (dL d) ((6 : Nat) : Int) (dZ p d)).drop 8 = _
    rw [get16_put16_far (by omega) (by omega) (by omega), get16_put16_far (by omega) (by omega) (by omega), get16_put16_far (by omega) (by omega) (by omega), get16_put16 (by omega) z1 (by omega)]
    refine ⟨h0, h2, h4, by simp; omega, ?_⟩
    rw [put16_eq (by omega), List.drop_set_of_lt (by omega), List.drop_set_of_lt (by omega)]
    exact h8
theorem ud_form {p q : Pkt} {d : Dgm} (hd : d.Ok) (h : 8 + d.dat.length ≤ 65535) (h17 : q.proto = 17) (hq : q.dat = dS p d) (hs : d.bare = true ∨ psum q 17 q.dat = 0) : udE q = 0 ∧ udD q = d := by
  obtain ⟨h0, h2, h4, h6, h8⟩ := dS_at (p := p) hd h
  rw [← hq] at h0 h2 h4 h6 h8
  have hl : q.dat.length = 8 + d.dat.length := by rw [hq, dS_len]
  have e : udE q = 0 := by
    unfold udE
    rw [if_neg (by simp [h17]), if_neg (by omega), if_neg (by rw [h4, hl]; simp), if_neg]
    rintro ⟨h9, h10⟩
    rcases hs with hs | hs
    · rw [hs] at h6
      exact h9 (by simpa using h6)
    · exact h10 hs
  refine ⟨e, ?_⟩
  unfold udD
  rw [if_pos e]
  unfold rdD
  rw [h0, h2, h6, h8]
theorem db_form {p : Pkt} {d : Dgm} (h : dbE p d = 0) : dbP p d = { p with proto := 17, dat := dS p d } ∧ p.opt.length ≤ 40 ∧ p.opt.length % 4 = 0 ∧ 20 + p.opt.length + (8 + d.dat.length) ≤ 65535 := by
  have hw := wiE_zero h
  refine ⟨?_, hw⟩
  unfold dbP withP
  rw [dS_len]
  unfold dbE at h
  rw [if_pos h]
theorem db_back {p : Pkt} {d : Dgm} (hd : d.Ok) (h : dbE p d = 0) : udE (dbP p d) = 0 ∧ udD (dbP p d) = d ∧ rightP (dbP p d) = true ∧ (dbP p d).ttl = p.ttl := by
  obtain ⟨e, h1, h2, h3⟩ := db_form h
  have h8 : 8 + d.dat.length ≤ 65535 := by omega
  have hs : d.bare = true ∨ psum (dbP p d) 17 (dbP p d).dat = 0 := by
    cases hb : d.bare with
    | true => exact .inl rfl
    | false => right; rw [e]; exact dS_sum hd h8 hb
  have := ud_form hd h8 (q := dbP p d) (p := p) (by rw [e]) (by rw [e]) hs
  refine ⟨this.1, this.2, ?_, by rw [e]⟩
  rw [e]; unfold rightP
  simp [dS_len]
  omega





end Go.Proofs.Ytjhgcnoijajffaa
namespace Go.Proofs.Ytjhgcnoijajffaa
open Go.RowKit Go.Shelf
set_option linter.unusedVariables false
set_option linter.unusedSimpArgs false
attribute [local go_sem] Oper.semAt_some
set_option linter.unusedVariables false
set_option linter.unusedSimpArgs false
set_option maxHeartbeats 4000000
set_option maxRecDepth 100000
structure SpX where
  o : Opt
  A : Option Addr
  n : Nat
  c : Nat
  ok : Bool
structure SpS where
  os : List Opt
  v : Value
  pd : Option SpX
  bad : Bool
def SplI (w : World) (B : Nat) (C : List Opt → World → Prop) (s : SpS) (W : World) : Prop :=
  C s.os W ∧ W.cell? ⟨B, 0, none⟩ = some s.v ∧ W.frozen? ⟨B, 0, none⟩ = false ∧ Below w.heap.size w W ∧ s.bad = false ∧ ∀ x, s.pd = some x → x.ok = true → Own W w.heap.size 5 x.A x.n x.c x.o.dat
theorem SplI.below {w : World} {B : Nat} {C : List Opt → World → Prop} (hC : ∀ os W W', C os W → Below W.heap.size W W' → C os W') {s : SpS} {W W' : World} (h : SplI w B C s W) (hb : Below W.heap.size W W') : SplI w B C s W' := by
  obtain ⟨h1, h2, h3, h4, h5, h6⟩ := h
  have hlt := World.block_lt_of_cell? W _ h2
  exact ⟨hC _ _ _ h1 hb, (hb.cell hlt).trans h2, (hb.frozen hlt).trans h3, below_then h4 hb, h5, fun x hx ho => (h6 x hx ho).below hb⟩
end Go.Proofs.Ytjhgcnoijajffaa
namespace Go.Proofs.Ytjhgcnoijajffaa
open Go.RowKit Go.Shelf
set_option linter.unusedVariables false
set_option linter.unusedSimpArgs false
attribute [local go_sem] Oper.semAt_some
set_option linter.unusedVariables false
set_option linter.unusedSimpArgs false
set_option maxHeartbeats 8000000
set_option maxRecDepth 100000
end Go.Proofs.Ytjhgcnoijajffaa
namespace Go.Proofs.Ytjhgcnoijajffaa
open Go.RowKit Go.Shelf
set_option linter.unusedVariables false
set_option linter.unusedSimpArgs false
attribute [local go_sem] Oper.semAt_some jump_normal jump_exit jump_ret jump_panic jump_goto
set_option linter.unusedVariables false
set_option linter.unusedSimpArgs false
set_option maxHeartbeats 8000000
set_option maxRecDepth 100000
end Go.Proofs.Ytjhgcnoijajffaa
namespace Go.Proofs.Ytjhgcnoijajffaa
open Go.RowKit Go.Shelf
set_option linter.unusedVariables false
set_option linter.unusedSimpArgs false
attribute [local go_sem] Oper.semAt_some jump_normal jump_exit jump_ret jump_panic jump_goto
set_option linter.unusedVariables false
set_option linter.unusedSimpArgs false
set_option linter.unusedSimpArgs false
set_option maxHeartbeats 8000000
set_option maxRecDepth 100000
structure SO (W : World) (base r : Nat) (t : TypeId) (A : Option Addr) (n c : Nat) (os : List Opt) : Prop where
  o : OsO W base A n c os
  b : ∃ cs, Blk W r cs t
theorem SO.below {W W' : World} {base r : Nat} {t : TypeId} {A : Option Addr} {n c : Nat} {os : List Opt} (h : SO W base r t A n c os) (hb : Below W.heap.size W W') : SO W' base r t A n c os := by
  obtain ⟨h3, cs, h4⟩ := h
  exact ⟨h3.below hb, cs, h4.below hb⟩
structure TcC (w : World) (k kB D : Nat) (os : List Opt) (W : World) : Prop where
  s : ∃ OA oc, Blk W (k + 1) #[.int .u16 0, .int .u16 0, .int .u32 0, .int .u32 0, .int .u8 0, .int .u16 0, .int .u16 0, .slice OA os.length oc, .slice none 0 0] 131 ∧ OsO W w.heap.size OA os.length oc os
  e : Blk W (k + 1 + 1) #[.int .i64 3] 28
  b : ∃ v, Blk W kB #[v] 25
  d : NoCells W (D + 1)
theorem TcC.below {w : World} {k kB D : Nat} {os : List Opt} {W W' : World} (h : TcC w k kB D os W) (hb : Below W.heap.size W W') : TcC w k kB D os W' := by
  obtain ⟨⟨OA, oc, h1, h2⟩, h3, ⟨v, h4⟩, h5⟩ := h
  exact ⟨⟨OA, oc, h1.below hb, h2.below hb⟩, h3.below hb, ⟨v, h4.below hb⟩, h5.below hb⟩
end Go.Proofs.Ytjhgcnoijajffaa
namespace Go.Proofs.Ytjhgcnoijajffaa
open Go.RowKit
set_option linter.unusedVariables false
set_option linter.unusedSimpArgs false
set_option maxHeartbeats 4000000

set_option maxRecDepth 100000
structure Msg where
  ty : Int
  code : Int
  rest : Int
  dat : List UInt8
structure Msg.Ok (m : Msg) : Prop where
  ty : 0 ≤ m.ty ∧ m.ty ≤ 255
  code : 0 ≤ m.code ∧ m.code ≤ 255
  rest : 0 ≤ m.rest ∧ m.rest ≤ 4294967295

structure Frm where
  call : Int
  hs : Bool
  ha : Bool
  seq : Int
  ack : Int
  dat : List UInt8
structure Frm.Ok (f : Frm) : Prop where
  call : 0 ≤ f.call ∧ f.call ≤ 65535
  seq : 0 ≤ f.seq ∧ f.seq ≤ 4294967295
  ack : 0 ≤ f.ack ∧ f.ack ≤ 4294967295





end Go.Proofs.Ytjhgcnoijajffaa
namespace Go.Proofs.Ytjhgcnoijajffaa
open Go.RowKit Go.MapKept
set_option linter.unusedVariables false
set_option linter.unusedSimpArgs false
set_option maxHeartbeats 4000000
set_option maxRecDepth 100000
def wayT : Value := .agg #[.func (.func 49) #[] #[], .func (.func 48) #[] #[]]
def wayU : Value := .agg #[.func (.func 50) #[] #[], .func (.func 48) #[] #[]]
def wayI : Value := .agg #[.func (.func 51) #[] #[], .func (.func 52) #[] #[]]
def wayG : Value := .agg #[.func (.func 53) #[] #[], .func (.func 54) #[] #[]]
def kn : Nat → Array MapEntry
  | 0 => #[]
  | 1 => #[⟨.int .u8 6, wayT, 0⟩]
  | 2 => #[⟨.int .u8 6, wayT, 0⟩, ⟨.int .u8 17, wayU, 1⟩]
  | 3 => #[⟨.int .u8 6, wayT, 0⟩, ⟨.int .u8 17, wayU, 1⟩, ⟨.int .u8 1, wayI, 2⟩]
  | _ => #[⟨.int .u8 6, wayT, 0⟩, ⟨.int .u8 17, wayU, 1⟩, ⟨.int .u8 1, wayI, 2⟩, ⟨.int .u8 47, wayG, 3⟩]
theorem push_setK {α : Type} (h : Array α) (x y : α) : (h.push x).setIfInBounds h.size y = h.push y := by
  apply Array.ext_getElem?
  intro i
  simp only [Array.getElem?_setIfInBounds, Array.getElem?_push, Array.size_push]
  by_cases e : i = h.size
  · simp [e]
  · simp [e, Ne.symm e]
theorem run_insertK {w : World} {es es' : Array MapEntry} {c : Nat} (k : Int) (v : Value) (h : Instr.findNow (.int .u8) (.int .u8 k) es.toList 0 = some none) (he : es.push ⟨.int .u8 k, v, c⟩ = es') :
    (Instr.mapUpdate 71 (.map (some w.heap.size)) (.int .u8 k) v).run Try.prog (w.alloc (.map es c)) = .ok () (w.alloc (.map es' (c + 1))) := by
  have hb : (w.alloc (.map es c)).heap[w.heap.size]? = some (.map es c) := (heap_alloc w _).1
  have ht := Try.underlying71
  have hk := Try.underlying5
  have hkey : IsKey (.int .u8) (.int .u8 k) := rfl
  subst he
  simp [Instr.mapUpdate, run_underlying ht, MapKept.run_getObj_map hb, run_checkKey hk hkey, run_findKey hk h, run_setObj_map _ hb, Result.andThen]
  show ({ w with heap := (w.heap.push _).setIfInBounds w.heap.size _ } : World) = _
  rw [push_setK]
  rfl
theorem known_any (w : World) :
    Calls Try.prog 22 #[] w fun e w' => e = .returned (.map (some w.heap.size)) ∧ w' = w.alloc (.map (kn 4) 4) := by
  have h0 : (Instr.makeMap 71 none).run Try.prog w = .ok (.map (some w.heap.size)) (w.alloc (.map (kn 0) 0)) := rfl
  have h1 := run_insertK (w := w) (es := kn 0) (es' := kn 1) (c := 0) 6 wayT rfl rfl
  have h2 := run_insertK (w := w) (es := kn 1) (es' := kn 2) (c := 1) 17 wayU rfl rfl
  have h3 := run_insertK (w := w) (es := kn 2) (es' := kn 3) (c := 2) 1 wayI rfl rfl
  have h4 := run_insertK (w := w) (es := kn 3) (es' := kn 4) (c := 3) 47 wayG rfl rfl
  unfold wayT at h1; unfold wayU at h2; unfold wayI at h3; unfold wayG at h4
  go_enter Try.func22, Try.ntmps22
  go_wp2_with fail
  go_ret
  exact ⟨rfl, rfl⟩
def knB (t : Int) : Bool := t == 6 || t == 17 || t == 1 || t == 47
def knV (t : Int) : Value := if t = 6 then wayT else if t = 17 then wayU else if t = 1 then wayI else if t = 47 then wayG else .agg #[.nilFunc, .nilFunc]
theorem run_known {W : World} {r : Nat} (h : W.heap[r]? = some (.map (kn 4) 4)) (t : Int) :
    (Instr.lookup 71 (.map (some r)) (.int .u8 t) true).run Try.prog W = .ok (.tuple #[knV t, .bool (knB t)]) W := by
  have ht := Try.underlying71
  have hk := Try.underlying5
  have hkey : IsKey (.int .u8) (.int .u8 t) := rfl
  have hz : (zeroValue 69).run Try.prog W = .ok (.agg #[.nilFunc, .nilFunc]) W := by rfl
  have hemp : (kn 4).isEmpty = false := rfl
  by_cases h6 : t = 6
  · subst h6
    have hf : Instr.findNow (.int .u8) (.int .u8 6) (kn 4).toList 0 = some (some (0, wayT)) := rfl
    simp [Instr.lookup, run_underlying ht, MapKept.run_getObj_map h, run_checkKey hk hkey, run_findKey hk hf, Result.andThen, knV, knB]
  by_cases h17 : t = 17
  · subst h17
    have hf : Instr.findNow (.int .u8) (.int .u8 17) (kn 4).toList 0 = some (some (1, wayU)) := rfl
    simp [Instr.lookup, run_underlying ht, MapKept.run_getObj_map h, run_checkKey hk hkey, run_findKey hk hf, Result.andThen, knV, knB]
  by_cases h1 : t = 1
  · subst h1
    have hf : Instr.findNow (.int .u8) (.int .u8 1) (kn 4).toList 0 = some (some (2, wayI)) := rfl
    simp [Instr.lookup, run_underlying ht, MapKept.run_getObj_map h, run_checkKey hk hkey, run_findKey hk hf, Result.andThen, knV, knB]
  by_cases h47 : t = 47
  · subst h47
    have hf : Instr.findNow (.int .u8) (.int .u8 47) (kn 4).toList 0 = some (some (3, wayG)) := rfl
    simp [Instr.lookup, run_underlying ht, MapKept.run_getObj_map h, run_checkKey hk hkey, run_findKey hk hf, Result.andThen, knV, knB]
  have hf : Instr.findNow (.int .u8) (.int .u8 t) (kn 4).toList 0 = some none := by
    simp [kn, Instr.findNow, Instr.sameNow, beq_eq_false_iff_ne.2 h6, beq_eq_false_iff_ne.2 h17, beq_eq_false_iff_ne.2 h1, beq_eq_false_iff_ne.2 h47]
  simp [Instr.lookup, run_underlying ht, MapKept.run_getObj_map h, run_checkKey hk hkey, run_findKey hk hf, Result.andThen, knV, knB, hz, h6, h17, h1, h47]
structure PtPost (w : World) (a b E : Int) (e : Ending) (w' : World) : Prop where
  out : e = .returned (.tuple #[.agg #[.int .u16 a, .int .u16 b], .int .i64 E]) ∧ Below w.heap.size w w'
theorem pudp_any (p : Pkt) (hp : p.Ok) (A1 : Option Addr) (n1 c1 : Nat) (A2 : Option Addr) (n2 c2 : Nat) (w : World) (k2 : Bs w A2 n2 c2 p.dat) :
    Calls Try.prog 50 #[(.agg #[.int .u8 (p).tos, .int .u16 (p).id, .bool (p).keep, .int .u8 (p).ttl, .int .u8 (p).proto, .int .u32 (p).src, .int .u32 (p).dst, .slice A1 n1 c1, .slice A2 n2 c2])] w (PtPost w (udD p).src (udD p).dst (udE p)) := by
  have ht := fun W (h : Bs W A2 n2 c2 p.dat) => udp_any p hp A1 n1 c1 A2 n2 c2 W h
  obtain ⟨s, hs⟩ : ∃ s, udD p = s := ⟨_, rfl⟩
  obtain ⟨E, hE⟩ : ∃ s, udE p = s := ⟨_, rfl⟩
  rw [hs, hE] at ht
  rw [hs, hE]
  clear hs hE
  obtain ⟨k, hk, w1, hw1, P1, Z1, R1⟩ := nwI2 w #[.int .u8 (p).tos, .int .u16 (p).id, .bool (p).keep, .int .u8 (p).ttl, .int .u8 (p).proto, .int .u32 (p).src, .int .u32 (p).dst, .slice A1 n1 c1, .slice A2 n2 c2] 27 #[.int .u16 0, .int .u16 0] 74
  have Pc1 := P1.cell
  have Zc1 := Z1.cell
  have Pl1 := P1.lt
  have Zl1 := Z1.lt
  have x1 := (k2).below R1
  go_enter Try.func50, Try.ntmps50
  go_wp2_with (go_at_call 17; ((with_reducible refine (ht w1 x1).mono ?_); rintro e u2 ⟨⟨DA, dn, dc, rfl, -, hB2⟩⟩); (obtain ⟨w2, hw2, V2, kS2, hkS2, S2⟩ := nw1 u2 #[.int .u16 (s).src, .int .u16 (s).dst, .bool (s).bare, .slice DA dn dc] 32); have Sc2 := S2.cell; have T2 := below_then hB2 V2; have P2 := P1.below T2; have Pc2 := P2.cell; clear Pc1; have Z2 := Z1.below T2; have Zc2 := Z2.cell; clear Zc1; have x2 := x1.below T2; have R2 := below_then R1 T2)
  obtain ⟨wf, hwf, Sf⟩ := store2 Z2 (.int .u16 s.src) (.int .u16 s.dst)
  rw [hwf]
  have pf := Sf.blk.cell
  exact bodyPost_ret (by simp [results, Try.results50, go_sem, pf]) rfl ⟨⟨rfl, Sf.bel R2 (by omega)⟩⟩
structure TtPost (w : World) (T : Tup) (E : Int) (e : Ending) (w' : World) : Prop where
  out : e = .returned (.tuple #[(.agg #[.int .u8 (T).proto, .int .u32 (T).src, .int .u32 (T).dst, .int .u16 (T).sp, .int .u16 (T).dp]), .int .i64 E]) ∧ Below w.heap.size w w'
def tuP (p : Pkt) (a b E : Int) : Tup := if E ≠ 0 then zT else ⟨p.proto, p.src, p.dst, a, b⟩
theorem tupled_any (p : Pkt) (A1 : Option Addr) (n1 c1 : Nat) (A2 : Option Addr) (n2 c2 : Nat) (a b E : Int) (w : World) :
    Calls Try.prog 23 #[(.agg #[.int .u8 (p).tos, .int .u16 (p).id, .bool (p).keep, .int .u8 (p).ttl, .int .u8 (p).proto, .int .u32 (p).src, .int .u32 (p).dst, .slice A1 n1 c1, .slice A2 n2 c2]), .agg #[.int .u16 a, .int .u16 b], .int .i64 E] w (TtPost w (tuP p a b E) E) := by
  by_cases h0 : E = 0
  · subst h0
    go_enter Try.func23, Try.ntmps23
    go_wp2_with fail
    exact bodyPost_ret (v := .tuple #[(.agg #[.int .u8 ((⟨p.proto, p.src, p.dst, a, b⟩ : Tup)).proto, .int .u32 ((⟨p.proto, p.src, p.dst, a, b⟩ : Tup)).src, .int .u32 ((⟨p.proto, p.src, p.dst, a, b⟩ : Tup)).dst, .int .u16 ((⟨p.proto, p.src, p.dst, a, b⟩ : Tup)).sp, .int .u16 ((⟨p.proto, p.src, p.dst, a, b⟩ : Tup)).dp]), .int .i64 0]) (by simp [results, Try.results23, go_sem]) rfl ⟨⟨rfl, by (repeat (first | with_reducible exact Below.refl _ _ | with_reducible refine below_drew ?_ | with_reducible refine below_drewN ?_ _ | with_reducible refine below_alloc ?_ (Nat.le_refl _) _ | with_reducible refine Below.setCell ?_ (by first | exact Nat.le_refl _ | (simp only []; omega)) _ | with_reducible assumption))⟩⟩
  · have h0b : (E != 0) = true := by simpa using h0
    have hz : tuP p a b E = zT := by unfold tuP; rw [if_pos h0]
    rw [hz]
    clear h0 hz
    go_enter Try.func23, Try.ntmps23
    go_wp2_with fail
    exact bodyPost_ret (v := .tuple #[(.agg #[.int .u8 (zT).proto, .int .u32 (zT).src, .int .u32 (zT).dst, .int .u16 (zT).sp, .int .u16 (zT).dp]), .int .i64 E]) (by simp [results, Try.results23, go_sem, zT]) rfl ⟨⟨rfl, by (repeat (first | with_reducible exact Below.refl _ _ | with_reducible refine below_drew ?_ | with_reducible refine below_drewN ?_ _ | with_reducible refine below_alloc ?_ (Nat.le_refl _) _ | with_reducible refine Below.setCell ?_ (by first | exact Nat.le_refl _ | (simp only []; omega)) _ | with_reducible assumption))⟩⟩
set_option maxHeartbeats 8000000
def isKn : World → Value → Prop := fun w v => ∃ r, v = .map (some r) ∧ w.heap[r]? = some (.map (kn 4) 4)
theorem st_isKn : ∀ w w' v, isKn w v → Below w.heap.size w w' → isKn w' v := fun w w' v ⟨r, h, k⟩ hb => ⟨r, h, by
  have := hb.block r (by
    rcases Nat.lt_or_ge r w.heap.size with h1 | h1
    · exact h1
    · rw [Array.getElem?_eq_none h1] at k; cases k)
  rw [this]; exact k⟩
theorem ret_isKn {wo : World} : ∃ v, Ending.returned (.map (some wo.heap.size)) = .returned v ∧ isKn (wo.alloc (.map (kn 4) 4)) v ∧ Below wo.heap.size wo (wo.alloc (.map (kn 4) 4)) := ⟨_, rfl, ⟨_, rfl, (heap_alloc wo _).1⟩, (Below.refl _ _).alloc (Nat.le_refl _) _⟩
theorem of_udp_ (p : Pkt) (A1 : Option Addr) (n1 c1 : Nat) (A2 : Option Addr) (n2 c2 : Nat) (w : World) (k2 : Bs w A2 n2 c2 p.dat) (hpr : p.proto = 17) (a b E : Int)
    (ht : ∀ W, Bs W A2 n2 c2 p.dat → Calls Try.prog 50 #[(.agg #[.int .u8 (p).tos, .int .u16 (p).id, .bool (p).keep, .int .u8 (p).ttl, .int .u8 (p).proto, .int .u32 (p).src, .int .u32 (p).dst, .slice A1 n1 c1, .slice A2 n2 c2])] W (PtPost W a b E)) :
    Calls Try.prog 6 #[(.agg #[.int .u8 (p).tos, .int .u16 (p).id, .bool (p).keep, .int .u8 (p).ttl, .int .u8 (p).proto, .int .u32 (p).src, .int .u32 (p).dst, .slice A1 n1 c1, .slice A2 n2 c2])] w (TtPost w (tuP p a b E) E) := by
  have hrun : ∀ (W : World) (r : Nat), W.heap[r]? = some (.map (kn 4) 4) → (Instr.lookup 71 (.map (some r)) (.int .u8 p.proto) true).run Try.prog W = .ok (.tuple #[.agg #[.func (.func 50) #[] #[], .func (.func 48) #[] #[]], .bool true]) W := fun W r h => by
    have := run_known h p.proto
    rw [show knV p.proto = .agg #[.func (.func 50) #[] #[], .func (.func 48) #[] #[]] from by rw [hpr]; rfl, show knB p.proto = true from by rw [hpr]; rfl] at this
    exact this
  clear hpr
  have htu := fun W => tupled_any p A1 n1 c1 A2 n2 c2 a b E W
  obtain ⟨T, hT'⟩ : ∃ T, tuP p a b E = T := ⟨_, rfl⟩
  rw [hT'] at htu
  rw [hT']
  clear hT'
  obtain ⟨k, hk, w1, hw1, P1, Z1, R1⟩ := nwI2 w #[.int .u8 (p).tos, .int .u16 (p).id, .bool (p).keep, .int .u8 (p).ttl, .int .u8 (p).proto, .int .u32 (p).src, .int .u32 (p).dst, .slice A1 n1 c1, .slice A2 n2 c2] 27 #[.int .u8 0, .int .u32 0, .int .u32 0, .int .u16 0, .int .u16 0] 34
  have Pc1 := P1.cell
  have Zc1 := Z1.cell
  have Pl1 := P1.lt
  have Zl1 := Z1.lt
  have x1 := (k2).below R1
  go_enter Try.func6, Try.ntmps6
  go_wp2_with fail
  refine region_z 8 6 (by kernel_rfl) (by kernel_rfl) (fun _ _ _ _ _ h => h) ?_; (iterate 8 (first | (apply ObsK.skip (by rfl)) | (apply ObsK.v (by rfl); (intro wo hT; (repeat (first | (intro v hv; ((obtain ⟨r, rfl, hm⟩ := hv; have hlk := hrun _ r hm))) | (intro _ _ k; try have hcv := cv k))); (have pc := (P1.below hT).cell; have hsz : w1.heap.size ≤ wo.heap.size := hT.size); refine Goes.mk ?_; go_simp; first | exact goes_v | exact goes_b (by assumption) | exact goes_new hsz | (refine goes_enter ?_; first | (go_at_call 22; ((with_reducible refine (known_any wo).mono ?_); rintro e w9 ⟨rfl, rfl⟩); exact ret_isKn)))) | (apply ObsK.b (by rfl); (intro wo hT; (repeat (first | (intro v hv; ((obtain ⟨r, rfl, hm⟩ := hv; have hlk := hrun _ r hm))) | (intro _ _ k; try have hcv := cv k))); (have pc := (P1.below hT).cell; have hsz : w1.heap.size ≤ wo.heap.size := hT.size); refine Goes.mk ?_; go_simp; first | exact goes_v | exact goes_b (by assumption) | exact goes_new hsz | (refine goes_enter ?_; first | (go_at_call 22; ((with_reducible refine (known_any wo).mono ?_); rintro e w9 ⟨rfl, rfl⟩); exact ret_isKn)))) | (apply ObsK.p (q := isKn) (by rfl) st_isKn; (intro wo hT; (repeat (first | (intro v hv; ((obtain ⟨r, rfl, hm⟩ := hv; have hlk := hrun _ r hm))) | (intro _ _ k; try have hcv := cv k))); (have pc := (P1.below hT).cell; have hsz : w1.heap.size ≤ wo.heap.size := hT.size); refine Goes.mk ?_; go_simp; first | exact goes_v | exact goes_b (by assumption) | exact goes_new hsz | (refine goes_enter ?_; first | (go_at_call 22; ((with_reducible refine (known_any wo).mono ?_); rintro e w9 ⟨rfl, rfl⟩); exact ret_isKn)))) | (apply ObsK.p (q := isNew w1.heap.size #[.nilFunc, .nilFunc] 69) (by rfl) st_isNew; (intro wo hT; (repeat (first | (intro v hv; ((obtain ⟨r, rfl, hm⟩ := hv; have hlk := hrun _ r hm))) | (intro _ _ k; try have hcv := cv k))); (have pc := (P1.below hT).cell; have hsz : w1.heap.size ≤ wo.heap.size := hT.size); refine Goes.mk ?_; go_simp; first | exact goes_v | exact goes_b (by assumption) | exact goes_new hsz | (refine goes_enter ?_; first | (go_at_call 22; ((with_reducible refine (known_any wo).mono ?_); rintro e w9 ⟨rfl, rfl⟩); exact ret_isKn)))))); refine ObsK.nil ?_; intro wz hBz; simp only [finOn, List.drop_succ_cons, List.drop_zero, List.drop_nil]
  rintro _ ⟨gS, rfl, hS, S2⟩ _ ⟨m, rfl, -⟩
  go_simp
  obtain ⟨wq, hwq, Sq⟩ := store2 S2 (.func (.func 50) #[] #[]) (.func (.func 48) #[] #[])
  have hBq := Sq.bel hBz hS
  have cS2 := S2.cell
  have hsf : ∀ (W : World) (a : Addr) (fn : Fn) (m : Mode), (store a (.func fn #[] #[]) m).run Try.prog W = stored Try.prog W a (.func fn #[] #[]) m := fun W a fn m => run_store _ W a _ m rfl
  have S2 := Sq.blk
  have Sc2 := S2.cell
  have P2 := P1.below hBq
  have Pc2 := P2.cell
  clear Pc1
  have Z2 := Z1.below hBq
  have Zc2 := Z2.cell
  clear Zc1
  have x2 := x1.below hBq
  have R2 := below_then R1 hBq
  go_wp2_with (first
    | (go_at_call 50; ((with_reducible refine (ht wq x2).mono ?_); rintro e u3 ⟨⟨rfl, hB3⟩⟩); (obtain ⟨w3, hw3, V3, kQ3, hkQ3, Q3⟩ := nw1 u3 #[.int .u16 a, .int .u16 b] 74); have Qc3 := Q3.cell; have T3 := below_then hB3 V3; have P3 := P2.below T3; have Pc3 := P3.cell; clear Pc2; have Z3 := Z2.below T3; have Zc3 := Z3.cell; clear Zc2; have S3 := S2.below T3; have Sc3 := S3.cell; clear Sc2; have x3 := x2.below T3; have R3 := below_then R2 T3)
    | (go_at_call 23; ((with_reducible refine (htu w3).mono ?_); rintro e w4 ⟨⟨rfl, hB4⟩⟩); have P4 := P3.below hB4; have Pc4 := P4.cell; clear Pc3; have Z4 := Z3.below hB4; have Zc4 := Z4.cell; clear Zc3; have S4 := S3.below hB4; have Sc4 := S4.cell; clear Sc3; have Q4 := Q3.below hB4; have Qc4 := Q4.cell; clear Qc3; have x4 := x3.below hB4; have R4 := below_then R3 hB4))
  obtain ⟨wf, hwf, Sf⟩ := store5 Z4 (.int .u8 T.proto) (.int .u32 T.src) (.int .u32 T.dst) (.int .u16 T.sp) (.int .u16 T.dp)
  rw [hwf]
  have pf := Sf.blk.cell
  exact bodyPost_ret (v := .tuple #[(.agg #[.int .u8 (T).proto, .int .u32 (T).src, .int .u32 (T).dst, .int .u16 (T).sp, .int .u16 (T).dp]), .int .i64 E]) (by simp [results, Try.results6, go_sem, pf]) rfl ⟨⟨rfl, Sf.bel R4 (by omega)⟩⟩
theorem of_udp (p : Pkt) (hp : p.Ok) (A1 : Option Addr) (n1 c1 : Nat) (A2 : Option Addr) (n2 c2 : Nat) (w : World) (k2 : Bs w A2 n2 c2 p.dat) (hpr : p.proto = 17) :
    Calls Try.prog 6 #[(.agg #[.int .u8 (p).tos, .int .u16 (p).id, .bool (p).keep, .int .u8 (p).ttl, .int .u8 (p).proto, .int .u32 (p).src, .int .u32 (p).dst, .slice A1 n1 c1, .slice A2 n2 c2])] w (TtPost w (tuP p (udD p).src (udD p).dst (udE p)) (udE p)) :=
  of_udp_ p A1 n1 c1 A2 n2 c2 w k2 hpr _ _ _ (fun W h => pudp_any p hp A1 n1 c1 A2 n2 c2 W h)
end Go.Proofs.Ytjhgcnoijajffaa
namespace Go.Proofs.Ytjhgcnoijajffaa
open Go.RowKit
set_option linter.unusedVariables false
set_option linter.unusedSimpArgs false
set_option maxRecDepth 100000
structure FlOk (Q : Pkt) (d : Dgm) (P : Pkt) : Prop where
  E : dbE Q d = 0
  form : P = { Q with proto := 17, dat := dS Q d }
  uE : udE P = 0
  uD : udD P = d
  tu : tuP P d.src d.dst 0 = ⟨17, Q.src, Q.dst, d.src, d.dst⟩
  len : P.dat.length = 8 + d.dat.length
theorem flow {Q : Pkt} (ho : Q.opt = []) {d : Dgm} (hd : d.Ok) (hl : d.dat.length ≤ 60000) : FlOk Q d (dbP Q d) := by
  have E : dbE Q d = 0 := by
    unfold dbE wiE
    rw [ho, if_neg (by simp), if_neg (by simp; omega)]
  have F := (db_form E).1
  obtain ⟨b1, b2, -, -⟩ := db_back hd E
  refine ⟨E, F, b1, b2, ?_, ?_⟩
  · unfold tuP; rw [F, if_neg (by simp)]
  · rw [F]; exact dS_len _ _
theorem FlOk.ok {Q : Pkt} {d : Dgm} {P : Pkt} (h : FlOk Q d P) (hq : Q.Ok) : P.Ok := by
  rw [h.form]
  exact ⟨hq.1, hq.2, hq.3, by simp, hq.5, hq.6⟩
set_option maxHeartbeats 8000000
theorem blk_belB {w w' : World} {k B : Nat} {cs : Array Value} {ty : TypeId} (h : Blk w k cs ty) (hb : Below B w w') (hk : k < B) : Blk w' k cs ty := ⟨(hb.block k hk).trans h.rd⟩
theorem fl_build {Q : Pkt} (hQ : Q.Ok) (ho : Q.opt = []) {d : Dgm} (hd : d.Ok) (hl : d.dat = []) (W : World) :
    Calls Try.prog 5 #[(.agg #[.int .u8 (Q).tos, .int .u16 (Q).id, .bool (Q).keep, .int .u8 (Q).ttl, .int .u8 (Q).proto, .int .u32 (Q).src, .int .u32 (Q).dst, .slice none 0 0, .slice none 0 0]), (.agg #[.int .u16 (d).src, .int .u16 (d).dst, .bool (d).bare, .slice none 0 0])] W (WiPost W (dbP Q d) 0) := by
  have h := dbuild_any Q hQ none 0 0 none 0 0 d hd none 0 0 W (by rw [ho]; exact Bs.none_ _) (by rw [hl]; exact Bs.none_ _) (by omega)
  rw [(flow ho hd (by rw [hl]; simp)).E] at h
  exact h
theorem fl_of {Q : Pkt} (hQ : Q.Ok) {d : Dgm} {P : Pkt} (F : FlOk Q d P) (A1 : Option Addr) (n1 c1 : Nat) (A2 : Option Addr) (n2 c2 : Nat) (W : World) (k2 : Bs W A2 n2 c2 P.dat) :
    Calls Try.prog 6 #[(.agg #[.int .u8 (P).tos, .int .u16 (P).id, .bool (P).keep, .int .u8 (P).ttl, .int .u8 (P).proto, .int .u32 (P).src, .int .u32 (P).dst, .slice A1 n1 c1, .slice A2 n2 c2])] W (TtPost W ⟨17, Q.src, Q.dst, d.src, d.dst⟩ 0) := by
  have h := of_udp P (F.ok hQ) A1 n1 c1 A2 n2 c2 W k2 (by rw [F.form])
  rw [F.uE, F.uD, F.tu] at h
  exact h
theorem get2_any (t u : Tup) (hu : u.Ok) (hu7 : u.proto = 17) (v y z : Int) (g c kt kr : Nat) (m s : Int) (w : World) (T : Blk w kt (tabC kr m s) 82) (hc : w.cell? ⟨kr, hx t, none⟩ = some (.slice (some ⟨g, 0, none⟩) 1 c)) (ho : ∀ q, q < 64 → q ≠ hx t → w.cell? ⟨kr, q, none⟩ = some (.slice none 0 0)) (C : RowC w g t v y z) :
    Calls Try.prog 10 #[.pointer (some ⟨kt, 0, none⟩), (.agg #[.int .u8 (u).proto, .int .u32 (u).src, .int .u32 (u).dst, .int .u16 (u).sp, .int .u16 (u).dp])] w fun e w' => ∃ a b, e = .returned (.tuple #[.int .i64 a, .int .i64 b, .bool (eqT t u)]) ∧ Below w.heap.size w w' := by
  by_cases h : hx u = hx t
  · refine (tget1_any t u hu hu7 v y z g c kt kr m s w T (by rw [h]; exact hc) C).mono ?_
    rintro e w' ⟨rfl, hB⟩
    cases eqT t u
    · exact ⟨0, 0, rfl, hB⟩
    · exact ⟨v, y, rfl, hB⟩
  · refine (tget0_any u hu hu7 kt kr m s w T (ho _ (hx_lt u) h)).mono ?_
    rintro e w' ⟨rfl, hB⟩
    have he : eqT t u = false := by
      cases hq : eqT t u
      · rfl
      · exact absurd (by rw [(eqT_iff _ _).1 hq]) h
    rw [he]
    exact ⟨0, 0, rfl, hB⟩
theorem topFlows_walk (w : World) (src : Int) (s0 : 0 ≤ src) (s1 : src ≤ 4294967295) (dst : Int) (d0 : 0 ≤ dst) (d1 : dst ≤ 4294967295) (a : Int) (a0 : 0 ≤ a) (a1 : a ≤ 65535) (b : Int) (b0 : 0 ≤ b) (b1 : b ≤ 65535) :
    Calls Try.prog 3 #[.int .u32 src, .int .u32 dst, .agg #[.int .u16 a, .int .u16 b]] w fun e w' => e = .returned (.bool true) ∧ Below w.heap.size w w' := by
  have q1 : (⟨0, 0, false, 0, 0, src, dst, [], []⟩ : Pkt).Ok := ⟨by simp, by simp, by simp, by simp, ⟨s0, s1⟩, ⟨d0, d1⟩⟩
  have q2 : (⟨0, 0, false, 0, 0, dst, src, [], []⟩ : Pkt).Ok := ⟨by simp, by simp, by simp, by simp, ⟨d0, d1⟩, ⟨s0, s1⟩⟩
  have e1 : (⟨a, b, false, []⟩ : Dgm).Ok := ⟨⟨a0, a1⟩, ⟨b0, b1⟩⟩
  have e2 : (⟨b, a, false, []⟩ : Dgm).Ok := ⟨⟨b0, b1⟩, ⟨a0, a1⟩⟩
  have ca := fl_build q1 rfl e1 rfl
  have cb := fl_build q2 rfl e2 rfl
  have F1 := flow (Q := ⟨0, 0, false, 0, 0, src, dst, [], []⟩) rfl e1 (by simp)
  have F2 := flow (Q := ⟨0, 0, false, 0, 0, dst, src, [], []⟩) rfl e2 (by simp)
  obtain ⟨Pa, hPa⟩ : ∃ P, dbP ⟨0, 0, false, 0, 0, src, dst, [], []⟩ ⟨a, b, false, []⟩ = P := ⟨_, rfl⟩
  obtain ⟨Pb, hPb⟩ : ∃ P, dbP ⟨0, 0, false, 0, 0, dst, src, [], []⟩ ⟨b, a, false, []⟩ = P := ⟨_, rfl⟩
  rw [hPa] at ca F1
  rw [hPb] at cb F2
  have cc := fl_of q1 F1
  have cd := fl_of q2 F2
  dsimp only at ca cb cc cd
  have tk1 : (⟨17, src, dst, a, b⟩ : Tup).Ok := ⟨by simp, ⟨s0, s1⟩, ⟨d0, d1⟩, ⟨a0, a1⟩, ⟨b0, b1⟩⟩
  have tk2 : (⟨17, dst, src, b, a⟩ : Tup).Ok := ⟨by simp, ⟨d0, d1⟩, ⟨s0, s1⟩, ⟨b0, b1⟩, ⟨a0, a1⟩⟩
  have cr1 := fun W => rev_any ⟨17, src, dst, a, b⟩ W
  have cr2 := fun W => rev_any ⟨17, dst, src, b, a⟩ W
  have cp := fun kt kr rows hr hne B h1 h2 W hB T R => tput_any ⟨17, src, dst, a, b⟩ tk1 rfl kt kr rows hr hne B h1 h2 W hB T R
  have cg := fun g c kt kr m s W T hc C => tget1_any ⟨17, src, dst, a, b⟩ ⟨17, src, dst, a, b⟩ tk1 rfl 7 10 1 g c kt kr m s W T hc C
  have cg2 := fun g c kt kr m s W T hc ho C => get2_any ⟨17, src, dst, a, b⟩ ⟨17, dst, src, b, a⟩ tk2 rfl 7 10 1 g c kt kr m s W T hc ho C
  have eself : eqT ⟨17, src, dst, a, b⟩ ⟨17, src, dst, a, b⟩ = true := (eqT_iff _ _).2 rfl
  rw [eself, if_pos rfl] at cg
  clear hPa hPb F1 F2 q1 q2 e1 e2
  simp only [revT] at cr1 cr2
  dsimp only at cr1 cr2 cp cg cg2
  have HE := Lib.hid (eqT_iff ⟨17, src, dst, a, b⟩ ⟨17, dst, src, b, a⟩)
  obtain ⟨h1, hh1⟩ : ∃ h, hx ⟨17, src, dst, a, b⟩ = h := ⟨_, rfl⟩
  rw [hh1] at cp cg cg2
  obtain ⟨ε, hε⟩ : ∃ ε, eqT ⟨17, src, dst, a, b⟩ ⟨17, dst, src, b, a⟩ = ε := ⟨_, rfl⟩
  rw [hε] at cg2 HE
  clear hh1 hε eself
  obtain ⟨k, hk, w1, hw1, L1, R1⟩ := nwI1 w #[.int .u16 a, .int .u16 b] 24
  have Lc1 := L1.cell
  have Ll1 := L1.lt
  go_enter Try.func3, Try.ntmps3
  go_wp2_with (first
    | (go_at_call 5; ((with_reducible refine (ca w1).mono ?_); rintro e u2 ⟨⟨C1, e1, f1, C2, e2, f2, rfl, o1, o2, hB2⟩⟩); (obtain ⟨w2, hw2, V2, kP2, hkP2, P2⟩ := nw1 u2 #[.int .u8 (Pa).tos, .int .u16 (Pa).id, .bool (Pa).keep, .int .u8 (Pa).ttl, .int .u8 (Pa).proto, .int .u32 (Pa).src, .int .u32 (Pa).dst, .slice C1 e1 f1, .slice C2 e2 f2] 27); have Pc2 := P2.cell; have T2 := below_then hB2 V2; have y2 := (o2.bs).below V2; have L2 := L1.below T2; have Lc2 := L2.cell; clear Lc1; have R2 := below_then R1 T2)
    | (go_at_call 5; ((with_reducible refine (cb w2).mono ?_); rintro e u3 ⟨⟨D1, g1, h1, D2, g2, h2, rfl, o3, o4, hB3⟩⟩); (obtain ⟨w3, hw3, V3, kQ3, hkQ3, Q3⟩ := nw1 u3 #[.int .u8 (Pb).tos, .int .u16 (Pb).id, .bool (Pb).keep, .int .u8 (Pb).ttl, .int .u8 (Pb).proto, .int .u32 (Pb).src, .int .u32 (Pb).dst, .slice D1 g1 h1, .slice D2 g2 h2] 27); have Qc3 := Q3.cell; have T3 := below_then hB3 V3; have z3 := (o4.bs).below V3; have L3 := L2.below T3; have Lc3 := L3.cell; clear Lc2; have P3 := P2.below T3; have Pc3 := P3.cell; clear Pc2; have y3 := y2.below T3; have R3 := below_then R2 T3)
    | (go_at_call 6; ((with_reducible refine (cc C1 e1 f1 C2 e2 f2 w3 y3).mono ?_); rintro e u4 ⟨⟨rfl, hB4⟩⟩); (obtain ⟨w4, hw4, V4, kA4, hkA4, A4⟩ := nw1 u4 #[.int .u8 17, .int .u32 src, .int .u32 dst, .int .u16 a, .int .u16 b] 34); have Ac4 := A4.cell; have T4 := below_then hB4 V4; have L4 := L3.below T4; have Lc4 := L4.cell; clear Lc3; have P4 := P3.below T4; have Pc4 := P4.cell; clear Pc3; have Q4 := Q3.below T4; have Qc4 := Q4.cell; clear Qc3; have y4 := y3.below T4; have z4 := z3.below T4; have R4 := below_then R3 T4)
    | (go_at_call 6; ((with_reducible refine (cd D1 g1 h1 D2 g2 h2 w4 z4).mono ?_); rintro e u5 ⟨⟨rfl, hB5⟩⟩); (obtain ⟨w5, hw5, V5, kB5, hkB5, B5⟩ := nw1 u5 #[.int .u8 17, .int .u32 dst, .int .u32 src, .int .u16 b, .int .u16 a] 34); have Bc5 := B5.cell; have T5 := below_then hB5 V5; have L5 := L4.below T5; have Lc5 := L5.cell; clear Lc4; have P5 := P4.below T5; have Pc5 := P5.cell; clear Pc4; have Q5 := Q4.below T5; have Qc5 := Q5.cell; clear Qc4; have A5 := A4.below T5; have Ac5 := A5.cell; clear Ac4; have y5 := y4.below T5; have z5 := z4.below T5; have R5 := below_then R4 T5))
  refine region_txt 19 (by kernel_rfl) (by kernel_rfl) ?_; (iterate 19 (first | (apply ObsK.skip (by rfl)) | (apply ObsK.v (by rfl); (intro wo hT; (repeat (first | (intro _ _ k; try have hcv := cv k))); (have aco := (A5.below hT).cell; have bco := (B5.below hT).cell); refine Goes.mk ?_; go_simp; first | exact goes_v | exact goes_b (by assumption) | (refine goes_enter ?_; first | (go_at_call 7; ((with_reducible refine (cr1 wo).mono ?_); rintro e w6 ⟨rfl, hB6⟩); exact ret_v hB6)))) | (apply ObsK.b (by rfl); (intro wo hT; (repeat (first | (intro _ _ k; try have hcv := cv k))); (have aco := (A5.below hT).cell; have bco := (B5.below hT).cell); refine Goes.mk ?_; go_simp; first | exact goes_v | exact goes_b (by assumption) | (refine goes_enter ?_; first | (go_at_call 7; ((with_reducible refine (cr1 wo).mono ?_); rintro e w6 ⟨rfl, hB6⟩); exact ret_v hB6)))))); refine ObsK.nil ?_; intro wz hBz; simp only [finOn, List.drop_succ_cons, List.drop_zero, List.drop_nil]
  go_simp
  obtain ⟨w6, rfl⟩ : ∃ W, W = wz := ⟨_, rfl⟩
  have A6 := A5.below hBz
  have B6 := B5.below hBz
  have R6 := below_then R5 hBz
  have a6l := A6.lt
  have b6l := B6.lt
  clear hBz A5 B5 Ac5 Bc5 ca cb cc cd cr1
  have fin : ∀ {w' : World}, Below w6.heap.size w6 w' → Below w.heap.size w w' := fun h => below_then R6 h
  cases ε
  · have hne' : Hid (¬ (src = dst ∧ a = b)) := fun h => by
      have := HE.out.2 (by rw [h.1, h.2])
      cases this
    go_wp2_with (first
      | (go_at_call 8; ((with_reducible refine (tnew_any w6).mono ?_); rintro e w7 ⟨kr, kt, rows, rfl, hkr, hkt, hne, T7, RR7, hrows, hB7⟩); have A7 := A6.below hB7; have B7 := B6.below hB7; have A7c := A7.cell)
      | (go_at_call 9; ((with_reducible refine (cp kt kr rows hrows hne w6.heap.size hkt hkr w7 hB7.size T7 RR7).mono ?_); rintro e w8 ⟨g, c, rfl, T8, hc8, ho8, C8, hB8⟩); have A8 := blk_belB A7 hB8 a6l; have B8 := blk_belB B7 hB8 b6l; have B8c := B8.cell)
      | (go_at_call 7; ((with_reducible refine (cr2 w8).mono ?_); rintro e w9 ⟨rfl, hB9⟩))
      | (go_at_call 10; ((with_reducible refine (cg g c kt kr 1 1 w9 (T8.below hB9) ((hB9.cell (World.block_lt_of_cell? w8 _ hc8)).trans hc8) (C8.below hB9)).mono ?_); rintro e w10 ⟨rfl, hB10⟩); have B910 := below_then hB9 hB10; have B10 := B8.below B910; have B10c := B10.cell)
      | (go_at_call 10; ((with_reducible refine (cg2 g c kt kr 1 1 w10 (T8.below B910) ((B910.cell (World.block_lt_of_cell? w8 _ hc8)).trans hc8) (fun q h1 h2 => (B910.cell (World.block_lt_of_cell? w8 _ (ho8 q h1 h2))).trans (ho8 q h1 h2)) (C8.below B910)).mono ?_); rintro e w11 ⟨va, vb, rfl, hB11⟩); have B11 := B10.below hB11; have A11 := A8.below (below_then B910 hB11); have B11c := B11.cell; have A11c := A11.cell))
    all_goals first | exact (hne'.out (by omega)).elim | (go_ret; exact ⟨rfl, fin ((hB7.trans hB8).trans ((below_then B910 hB11).mono (hB7.trans hB8).size))⟩)
  · have he := HE.out.1 rfl
    simp only [Tup.mk.injEq, true_and] at he
    obtain ⟨he1, -, he3, -⟩ := he
    subst he1 he3
    go_wp2_with (first
      | (go_at_call 8; ((with_reducible refine (tnew_any w6).mono ?_); rintro e w7 ⟨kr, kt, rows, rfl, hkr, hkt, hne, T7, RR7, hrows, hB7⟩); have A7 := A6.below hB7; have B7 := B6.below hB7; have A7c := A7.cell)
      | (go_at_call 9; ((with_reducible refine (cp kt kr rows hrows hne w6.heap.size hkt hkr w7 hB7.size T7 RR7).mono ?_); rintro e w8 ⟨g, c, rfl, T8, hc8, ho8, C8, hB8⟩); have A8 := blk_belB A7 hB8 a6l; have B8 := blk_belB B7 hB8 b6l; have B8c := B8.cell)
      | (go_at_call 7; ((with_reducible refine (cr2 w8).mono ?_); rintro e w9 ⟨rfl, hB9⟩))
      | (go_at_call 10; ((with_reducible refine (cg g c kt kr 1 1 w9 (T8.below hB9) ((hB9.cell (World.block_lt_of_cell? w8 _ hc8)).trans hc8) (C8.below hB9)).mono ?_); rintro e w10 ⟨rfl, hB10⟩); have B910 := below_then hB9 hB10; have B10 := B8.below B910; have B10c := B10.cell)
      | (go_at_call 10; ((with_reducible refine (cg2 g c kt kr 1 1 w10 (T8.below B910) ((B910.cell (World.block_lt_of_cell? w8 _ hc8)).trans hc8) (fun q h1 h2 => (B910.cell (World.block_lt_of_cell? w8 _ (ho8 q h1 h2))).trans (ho8 q h1 h2)) (C8.below B910)).mono ?_); rintro e w11 ⟨va, vb, rfl, hB11⟩); have B11 := B10.below hB11; have A11 := A8.below (below_then B910 hB11); have B11c := B11.cell; have A11c := A11.cell))
    go_ret
    exact ⟨rfl, fin ((hB7.trans hB8).trans ((below_then B910 hB11).mono (hB7.trans hB8).size))⟩
end Go.Proofs.Ytjhgcnoijajffaa
namespace Go.Proofs.Ytjhgcnoijajffaa
open Go.ChangeShapes Go.WideShapes Go.ChangeAt Go.RowKit
set_option linter.unusedVariables false
set_option linter.unusedSimpArgs false
theorem own_knob : ownKnob Try.prog.godebug = none := by kernel_rfl
theorem laid_out : laidOutB Try.prog = true := by kernel_rfl
section
variable {H : Type} {enc : TypeId × Value → H} {P : Program} {w : World} {base : Nat} {held : Bool} {spare : Nat → Bool}
theorem open_arr {r : Reach} {b0 : Nat} {t e : TypeId} {k : IntKind} {n : Nat} {v : Value} {d : DataW H} {ps : List MemPlace} (ht : P.underlying t = some (.array n e)) (he : P.underlying e = some (.int k)) (hc : P.cellsOf e = 1) (hn : P.cellsOf t = n)
    (hval : Value.okWide P w r b0 t v) (hd : DataW.Trod enc P w base spare held t v d ps) :
    ∃ f : Nat → Int, v = .agg ((List.range n).map fun i => Value.int k (f i)).toArray ∧ ∀ i, i < n → (Lit.int k (f i)).wf = true := by
  unfold Value.okWide at hval
  rw [ht] at hval
  obtain ⟨cs, rfl, hcs, _⟩ := hval
  obtain ⟨fuel, hf⟩ := hd
  obtain ⟨xs, m, rfl, hx, hl, hxl, hi⟩ := DataW.trod_array ht hf
  have key : ∀ i, i < n → ∃ a, cs[i]? = some (.int k a) ∧ (Lit.int k a).wf = true := by
    intro i hin
    have h1 := hi i hin
    rw [List.getElem?_eq_getElem (by omega), hc] at h1
    obtain ⟨a, h2, _, hw⟩ := DataW.trod_int he h1
    have h3 : (((Value.agg cs).cells.toList.drop (i * 1)).take 1)[0]? = some (.int k a) := by rw [h2]; rfl
    refine ⟨a, ?_, hw⟩
    simpa [Value.cells, List.getElem?_take, List.getElem?_drop] using h3
  refine ⟨fun i => if h : i < n then (key i h).choose else 0, ?_, fun i hin => by simp only [dif_pos hin]; exact (key i hin).choose_spec.2⟩
  congr 1
  apply Array.ext_getElem?
  intro i
  by_cases hin : i < n
  · rw [(key i hin).choose_spec.1]
    simp [hin]
  · rw [Array.getElem?_eq_none (by omega)]
    simp [hin]
theorem args_stay : ∀ {ts : List TypeId} {vs : List Value} {ds : List (DataW H)} {ps : List MemPlace} {W W' : World}, laidOutB P = true → ts.all (fun t => P.readableRec t && decide (t < P.types.size)) = true →
    DataW.TrodAll enc P W 0 (fun _ => true) true ts vs ds ps → Below W.heap.size W W' → DataW.TrodAll enc P W' 0 (fun b => decide (b < W.heap.size)) true ts vs ds ps
  | [], vs, ds, ps, W, W', _, _, h, _ => by
    obtain ⟨rfl, rfl, rfl⟩ := trodAll_nil h
    exact trodAll_mk0
  | t :: ts, vs, ds, ps, W, W', hl, hr, h, hb => by
    simp only [List.all_cons, Bool.and_eq_true, decide_eq_true_eq] at hr
    obtain ⟨v, vs', d, ds', p, q, rfl, rfl, rfl, h1, h2⟩ := trodAll_cons h
    have hlt : ∀ x ∈ p, x.block < W.heap.size := by obtain ⟨m, hm⟩ := h1; exact DataW.trod_lt m _ _ _ hm
    exact trodAll_cons_mk (Below.trod hl hr.1.1 hr.1.2 h1 hb hlt) (args_stay hl (by simpa using hr.2) h2 hb)
theorem law_post {f : Func} {s : ChangeSpec} {W W' : World} {args : Array Value} {ds : List (DataW H)} {before : List MemPlace} {tb : TypeId} (hb' : P.underlying tb = some .bool) (hres : f.resultTypes = #[tb]) (hl : laidOutB P = true)
    (hr : f.params.toList.all (fun t => P.readableRec t && decide (t < P.types.size)) = true) (hvars : s.vars = [])
    (hfn : s.fn H (ds ++ []) = { results := [.lit (.bool true)], args := ds }) (hW : DataW.Whole enc P f.params.toList s.vars false W args.toList ds [] before) (hb : Below W.heap.size W W') :
    s.post enc P f false true false false W args (.bool true) W' := by
  have hW2 := hW
  obtain ⟨p, q, hA, hV, rfl, hfz, hnd⟩ := hW
  rw [hvars] at hV
  obtain ⟨_, rfl⟩ := trodVars_none hV
  refine ⟨_, _, _, [], p, [], hW2, ?_, ?_, ?_, hb.frame _, fun h => by cases h⟩
  · rw [hfn, hres]
    exact trodAll_mk1 (shut_bool hb' _)
  · rw [hfn]
    exact args_stay hl hr hA hb
  · rw [hfn, hvars]
    rfl
end
end Go.Proofs.Ytjhgcnoijajffaa

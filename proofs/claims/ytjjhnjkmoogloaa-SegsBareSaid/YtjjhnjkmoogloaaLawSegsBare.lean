/- The Go law SegsBare: for every input the call returns true and each argument reads as it did. No other condition. -/
import Derived.Test.YtjjhnjkmoogloaaK5
import Derived.Test.YtjjhnjkmoogloaaK4
import Derived.Test.YtjjhnjkmoogloaaK2
/- SegsWhere, SegsBare. -/
namespace Go.Proofs.Ytjjhnjkmoogloaa
open Go.RowKit
set_option linter.unusedVariables false
set_option linter.unusedSimpArgs false
set_option maxHeartbeats 4000000
set_option maxRecDepth 100000

theorem sb_ok4 {p : Pkt} {s : Seg} (h : sbE p s = 0) : sbP p s = { p with proto := 6, dat := sS p s } := by unfold sbP; rw [if_pos h]
theorem shl32 {r : Int} (r0 : 0 ≤ r) (r1 : r < 32) : (2 : Int) ^ r.toNat % 4294967296 = 2 ^ r.toNat := by
  have : (2 : Nat) ^ r.toNat < 2 ^ 32 := Nat.pow_lt_pow_right (by omega) (by omega)
  have h2 : (2 : Int) ^ r.toNat = ((2 ^ r.toNat : Nat) : Int) := by simp
  rw [h2]
  simp only [Nat.reducePow] at this
  generalize 2 ^ r.toNat = m at this ⊢
  omega
theorem Bs.ne_ {w : World} {A : Option Addr} {n c : Nat} {l : List UInt8} (h : Bs w A n c l) (hn : 0 < n) {k : Nat} (hk : w.heap.size ≤ k) : ∀ a, A = some a → a.block ≠ k := by
  intro a ha
  obtain ⟨b, off, e, hc⟩ := h.rd hn
  have := World.block_lt_of_cell? w _ (hc 0 hn)
  rw [ha] at e
  injection e with e
  subst e
  simp only at this ⊢
  omega
theorem Bs.lt_ {w : World} {A : Option Addr} {n c : Nat} {l : List UInt8} (h : Bs w A n c l) (hn : 0 < n) : ∀ a, A = some a → a.block < w.heap.size := by
  intro a ha
  obtain ⟨b, off, e, hc⟩ := h.rd hn
  have := World.block_lt_of_cell? w _ (hc 0 hn)
  rw [ha] at e
  injection e with e
  subst e
  exact this
theorem segsWhere_walk (w : World) (p : Pkt) (hp : p.Ok) (A1 : Option Addr) (n1 c1 : Nat) (A2 : Option Addr) (n2 c2 : Nat) (k1 : Bs w A1 n1 c1 p.opt) (k2 : Bs w A2 n2 c2 p.dat) (s : Seg) (hs : s.Ok) (OA : Option Addr) (on oc : Nat) (A3 : Option Addr) (n3 c3 : Nat) (K1 : Os w OA on oc s.opts) (k3 : Bs w A3 n3 c3 s.dat) (hn3 : n3 ≤ 140737488351232) (x : Int) (x0 : 0 ≤ x) (x1 : x ≤ 255) :
    Calls Try.prog 6 #[(.agg #[.int .u8 (p).tos, .int .u16 (p).id, .bool (p).keep, .int .u8 (p).ttl, .int .u8 (p).proto, .int .u32 (p).src, .int .u32 (p).dst, .slice A1 n1 c1, .slice A2 n2 c2]), (.agg #[.int .u16 (s).src, .int .u16 (s).dst, .int .u32 (s).seq, .int .u32 (s).ack, .int .u8 (s).flags, .int .u16 (s).win, .int .u16 (s).urg, .slice OA on oc, .slice A3 n3 c3]), .int .u8 x] w fun e w' => e = .returned (.bool true) ∧ Below w.heap.size w w' := by
  have ca := fun W k1 K1 k3 => sbuild_any p hp A1 n1 c1 A2 n2 c2 s hs OA on oc A3 n3 c3 W k1 K1 k3 hn3
  obtain ⟨P1, hP1⟩ : ∃ P, sbP p s = P := ⟨_, rfl⟩
  obtain ⟨E1, hE1⟩ : ∃ E, sbE p s = E := ⟨_, rfl⟩
  simp only [hP1, hE1] at ca
  by_cases h : E1 = 0
  · subst h
    rw [sb_ok4 hE1] at hP1
    have n9 := (wiE_zero (sbE_zero hE1).2).2.2
    obtain ⟨r, hr⟩ : ∃ r : Int, x % 32 = r := ⟨_, rfl⟩
    have r0 : 0 ≤ r := by omega
    have r1 : r < 32 := by omega
    have hr2 : r.toNat < 32 := by omega
    obtain ⟨S, hS⟩ : ∃ S : Int, 2 ^ r.toNat % 4294967296 = S := ⟨_, rfl⟩
    have hS2 : (2 : Int) ^ r.toNat = S := by rw [← hS, shl32 r0 r1]
    have hsum := sS_sum p s
    have g1 := psum_src hp.src.1 hp.src.2 hr2 hsum
    have g2 := psum_dst (a := p.src) hp.dst.1 hp.dst.2 hr2 hsum
    rw [hS2] at g1 g2
    obtain ⟨X, hX⟩ : ∃ X, bits .xor .u32 p.src S = X := ⟨_, rfl⟩
    obtain ⟨Y, hY⟩ : ∃ Y, bits .xor .u32 p.dst S = Y := ⟨_, rfl⟩
    have X0 := (four_flip hp.src.1 hp.src.2 hr2).1
    have X1 := (four_flip hp.src.1 hp.src.2 hr2).2.1
    have Y0 := (four_flip hp.dst.1 hp.dst.2 hr2).1
    have Y1 := (four_flip hp.dst.1 hp.dst.2 hr2).2.1
    rw [hS2, hX] at X0 X1
    rw [hS2, hY] at Y0 Y1
    rw [hX] at g1
    rw [hY] at g2
    have hct : ∀ a b, 0 ≤ a → a ≤ 4294967295 → 0 ≤ b → b ≤ 4294967295 → csum (pseudo a b 6 (sS p s).length ++ sS p s) ≠ 0 → ∀ W A1 n1 c1 A2 n2 c2, Bs W A2 n2 c2 (sS p s) → Calls Try.prog 14 #[.agg #[.int .u8 p.tos, .int .u16 p.id, .bool p.keep, .int .u8 p.ttl, .int .u8 6, .int .u32 a, .int .u32 b, .slice A1 n1 c1, .slice A2 n2 c2]] W fun e w' => ∃ OB pn pc DA dn dc, e = .returned (.tuple #[(.agg #[.int .u16 (zS).src, .int .u16 (zS).dst, .int .u32 (zS).seq, .int .u32 (zS).ack, .int .u8 (zS).flags, .int .u16 (zS).win, .int .u16 (zS).urg, .slice OB pn pc, .slice DA dn dc]), .int .i64 5]) ∧ Below W.heap.size W w' := fun a b a0 a1 b0 b1 hc W A1 n1 c1 A2 n2 c2 kb => by
      have hl := kb.len
      rw [sS_len] at hl
      have e := sb_where hs hE1 ⟨p.tos, p.id, p.keep, p.ttl, 6, a, b, p.opt, sS p s⟩ rfl rfl hc
      have hh := tcp_any ⟨p.tos, p.id, p.keep, p.ttl, 6, a, b, p.opt, sS p s⟩ ⟨hp.tos, hp.id, hp.ttl, by show (0 : Int) ≤ 6 ∧ (6 : Int) ≤ 255; decide, ⟨a0, a1⟩, ⟨b0, b1⟩⟩ A1 n1 c1 A2 n2 c2 W kb (by omega)
      refine hh.mono ?_
      intro e' w' hq
      obtain ⟨OB, pn, pc, DA, dn, dc, rfl, -, -, -, hB⟩ := hq.out
      have ez : tcS ⟨p.tos, p.id, p.keep, p.ttl, 6, a, b, p.opt, sS p s⟩ = zS := by unfold tcS; rw [if_neg (by rw [e]; decide)]
      rw [ez, e]
      exact ⟨OB, pn, pc, DA, dn, dc, rfl, hB⟩
    have c1' := hct X p.dst X0 X1 hp.dst.1 hp.dst.2 g1
    have c2' := hct p.src Y hp.src.1 hp.src.2 Y0 Y1 g2
    obtain ⟨D, hD⟩ : ∃ D, sS p s = D := ⟨_, rfl⟩
    have hDl : Hid (0 < D.length) := by unfold Hid; rw [← hD, sS_len]; unfold sN; omega
    have hd : P1.dat = D := by rw [← hP1]; exact hD
    rw [hD] at c1' c2' hP1
    clear hct g1 g2 hsum hE1 hS2 X0 X1 Y0 Y1 hD
    subst hP1
    try dsimp only at ca
    have hw32 : ∀ z : Int, 0 ≤ z → z ≤ 255 → (z % 64 < 32 ∨ ¬ z % 64 < 32) := fun z _ _ => by omega
    obtain ⟨k, hk⟩ : ∃ k : Nat, w.heap.size = k := ⟨_, rfl⟩
    obtain ⟨w1, hw1⟩ : ∃ W, ((w.alloc (.cells #[.int .u8 (p).tos, .int .u16 (p).id, .bool (p).keep, .int .u8 (p).ttl, .int .u8 (p).proto, .int .u32 (p).src, .int .u32 (p).dst, .slice A1 n1 c1, .slice A2 n2 c2] 26)).alloc (.cells #[.int .u16 (s).src, .int .u16 (s).dst, .int .u32 (s).seq, .int .u32 (s).ack, .int .u8 (s).flags, .int .u16 (s).win, .int .u16 (s).urg, .slice OA on oc, .slice A3 n3 c3] 29)) = W := ⟨_, rfl⟩
    have Q1 : Blk w1 k #[.int .u8 (p).tos, .int .u16 (p).id, .bool (p).keep, .int .u8 (p).ttl, .int .u8 (p).proto, .int .u32 (p).src, .int .u32 (p).dst, .slice A1 n1 c1, .slice A2 n2 c2] 26 := by rw [← hw1]; exact ((blk_new _ _ _ k (by simp [hk])).alloc _)
    have M1 : Blk w1 (k + 1) #[.int .u16 (s).src, .int .u16 (s).dst, .int .u32 (s).seq, .int .u32 (s).ack, .int .u8 (s).flags, .int .u16 (s).win, .int .u16 (s).urg, .slice OA on oc, .slice A3 n3 c3] 29 := by rw [← hw1]; exact (blk_new _ _ _ (k + 1) (by simp [hk]))
    have R1 : Below w.heap.size w w1 := by rw [← hw1]; (repeat (first | with_reducible exact Below.refl _ _ | with_reducible refine below_drew ?_ | with_reducible refine below_drewN ?_ _ | with_reducible refine below_alloc ?_ (Nat.le_refl _) _ | with_reducible refine Below.setCell ?_ (by first | exact Nat.le_refl _ | (simp only []; omega)) _ | with_reducible assumption))
    have Qc1 := Q1.cell
    have Mc1 := M1.cell
    have Ql1 := Q1.lt
    have Ml1 := M1.lt
    have x1 := (k1).below R1
    have y1 := (k3).below R1
    have KK1 := K1.below R1
    clear k1 k2 k3 K1 hd
    by_cases h64 : x % 64 < 32
    · go_enter Try.func6, Try.ntmps6
      go_wp2_with (first
        | (go_at_call 18; ((with_reducible refine (ca w1 x1 KK1 y1).mono ?_); rintro e u2 hpost); (obtain ⟨B2, e2, g2, C2, h2, i2, rfl, O2, N2, hB2⟩ := hpost.out); clear hpost; (obtain ⟨w2, hw2⟩ : ∃ W, u2.alloc (.cells #[.int .u8 p.tos, .int .u16 p.id, .bool p.keep, .int .u8 p.ttl, .int .u8 6, .int .u32 p.src, .int .u32 p.dst, .slice B2 e2 g2, .slice C2 h2 i2] 26) = W := ⟨_, rfl⟩); have V2 : Below u2.heap.size u2 w2 := (by rw [← hw2]; (repeat (first | with_reducible exact Below.refl _ _ | with_reducible refine below_drew ?_ | with_reducible refine below_drewN ?_ _ | with_reducible refine below_alloc ?_ (Nat.le_refl _) _ | with_reducible refine Below.setCell ?_ (by first | exact Nat.le_refl _ | (simp only []; omega)) _ | with_reducible assumption))); (obtain ⟨kS2, hkS2⟩ : ∃ k : Nat, u2.heap.size = k := ⟨_, rfl⟩); have S2 : Blk w2 kS2 #[.int .u8 p.tos, .int .u16 p.id, .bool p.keep, .int .u8 p.ttl, .int .u8 6, .int .u32 p.src, .int .u32 p.dst, .slice B2 e2 g2, .slice C2 h2 i2] 26 := (by rw [← hw2]; exact blk_new u2 _ _ _ hkS2); have Sc2 := S2.cell; have T2 := below_then hB2 V2; have z2 := (N2.bs).below V2; have Q2 := Q1.below T2; have Qc2 := Q2.cell; clear Qc1; have M2 := M1.below T2; have Mc2 := M2.cell; clear Mc1; have x2 := x1.below T2; have y2 := y1.below T2; have R2 := below_then R1 T2; (obtain ⟨w9, hw9, T9⟩ := store1 S2 5 (.int .u32 X)); have S9 := T9.blk; (simp only [List.setIfInBounds_toArray, List.set_cons_zero, List.set_cons_succ] at S9); have sc9 := S9.cell; have sl9 := S9.lt; have sl2 := S2.lt; have z9 := T9.bs z2 ((N2.bs).ne_ (by have h := N2.len; have h2 := hDl.out; dsimp only at h; omega) (Nat.le_of_eq hkS2)); have R9 := T9.bel R2 (by have := R1.size; have := hB2.size; omega))
        | (go_at_call 14; ((with_reducible refine (c1' w9 B2 e2 g2 C2 h2 i2 z9).mono ?_); rintro e u3 ⟨OB, pn, pc, DA, dn, dc, rfl, hB3⟩))
        | (go_at_call 16; ((with_reducible refine (live03_any _).mono ?_); rintro e w5 ⟨rfl, hB5⟩)))
      go_ret
      exact ⟨rfl, below_then (below_then (below_then R9 hB3) ((Below.refl _ _).alloc (Nat.le_refl _) _)) hB5⟩

    · go_enter Try.func6, Try.ntmps6
      go_wp2_with (first
        | (go_at_call 18; ((with_reducible refine (ca w1 x1 KK1 y1).mono ?_); rintro e u2 hpost); (obtain ⟨B2, e2, g2, C2, h2, i2, rfl, O2, N2, hB2⟩ := hpost.out); clear hpost; (obtain ⟨w2, hw2⟩ : ∃ W, u2.alloc (.cells #[.int .u8 p.tos, .int .u16 p.id, .bool p.keep, .int .u8 p.ttl, .int .u8 6, .int .u32 p.src, .int .u32 p.dst, .slice B2 e2 g2, .slice C2 h2 i2] 26) = W := ⟨_, rfl⟩); have V2 : Below u2.heap.size u2 w2 := (by rw [← hw2]; (repeat (first | with_reducible exact Below.refl _ _ | with_reducible refine below_drew ?_ | with_reducible refine below_drewN ?_ _ | with_reducible refine below_alloc ?_ (Nat.le_refl _) _ | with_reducible refine Below.setCell ?_ (by first | exact Nat.le_refl _ | (simp only []; omega)) _ | with_reducible assumption))); (obtain ⟨kS2, hkS2⟩ : ∃ k : Nat, u2.heap.size = k := ⟨_, rfl⟩); have S2 : Blk w2 kS2 #[.int .u8 p.tos, .int .u16 p.id, .bool p.keep, .int .u8 p.ttl, .int .u8 6, .int .u32 p.src, .int .u32 p.dst, .slice B2 e2 g2, .slice C2 h2 i2] 26 := (by rw [← hw2]; exact blk_new u2 _ _ _ hkS2); have Sc2 := S2.cell; have T2 := below_then hB2 V2; have z2 := (N2.bs).below V2; have Q2 := Q1.below T2; have Qc2 := Q2.cell; clear Qc1; have M2 := M1.below T2; have Mc2 := M2.cell; clear Mc1; have x2 := x1.below T2; have y2 := y1.below T2; have R2 := below_then R1 T2; (obtain ⟨w9, hw9, T9⟩ := store1 S2 6 (.int .u32 Y)); have S9 := T9.blk; (simp only [List.setIfInBounds_toArray, List.set_cons_zero, List.set_cons_succ] at S9); have sc9 := S9.cell; have sl9 := S9.lt; have sl2 := S2.lt; have z9 := T9.bs z2 ((N2.bs).ne_ (by have h := N2.len; have h2 := hDl.out; dsimp only at h; omega) (Nat.le_of_eq hkS2)); have R9 := T9.bel R2 (by have := R1.size; have := hB2.size; omega))
        | (go_at_call 14; ((with_reducible refine (c2' w9 B2 e2 g2 C2 h2 i2 z9).mono ?_); rintro e u3 ⟨OB, pn, pc, DA, dn, dc, rfl, hB3⟩))
        | (go_at_call 16; ((with_reducible refine (live03_any _).mono ?_); rintro e w5 ⟨rfl, hB5⟩)))
      go_ret
      exact ⟨rfl, below_then (below_then (below_then R9 hB3) ((Below.refl _ _).alloc (Nat.le_refl _) _)) hB5⟩
  · have he : (E1 != 0) = true := by simpa using h
    clear h hP1 hE1
    obtain ⟨k, hk⟩ : ∃ k : Nat, w.heap.size = k := ⟨_, rfl⟩
    obtain ⟨w1, hw1⟩ : ∃ W, ((w.alloc (.cells #[.int .u8 (p).tos, .int .u16 (p).id, .bool (p).keep, .int .u8 (p).ttl, .int .u8 (p).proto, .int .u32 (p).src, .int .u32 (p).dst, .slice A1 n1 c1, .slice A2 n2 c2] 26)).alloc (.cells #[.int .u16 (s).src, .int .u16 (s).dst, .int .u32 (s).seq, .int .u32 (s).ack, .int .u8 (s).flags, .int .u16 (s).win, .int .u16 (s).urg, .slice OA on oc, .slice A3 n3 c3] 29)) = W := ⟨_, rfl⟩
    have Q1 : Blk w1 k #[.int .u8 (p).tos, .int .u16 (p).id, .bool (p).keep, .int .u8 (p).ttl, .int .u8 (p).proto, .int .u32 (p).src, .int .u32 (p).dst, .slice A1 n1 c1, .slice A2 n2 c2] 26 := by rw [← hw1]; exact ((blk_new _ _ _ k (by simp [hk])).alloc _)
    have M1 : Blk w1 (k + 1) #[.int .u16 (s).src, .int .u16 (s).dst, .int .u32 (s).seq, .int .u32 (s).ack, .int .u8 (s).flags, .int .u16 (s).win, .int .u16 (s).urg, .slice OA on oc, .slice A3 n3 c3] 29 := by rw [← hw1]; exact (blk_new _ _ _ (k + 1) (by simp [hk]))
    have R1 : Below w.heap.size w w1 := by rw [← hw1]; (repeat (first | with_reducible exact Below.refl _ _ | with_reducible refine below_drew ?_ | with_reducible refine below_drewN ?_ _ | with_reducible refine below_alloc ?_ (Nat.le_refl _) _ | with_reducible refine Below.setCell ?_ (by first | exact Nat.le_refl _ | (simp only []; omega)) _ | with_reducible assumption))
    have Qc1 := Q1.cell
    have Mc1 := M1.cell
    have Ql1 := Q1.lt
    have Ml1 := M1.lt
    have x1 := (k1).below R1
    have y1 := (k3).below R1
    have KK1 := K1.below R1
    clear k1 k2 k3 K1
    go_enter Try.func6, Try.ntmps6
    go_wp2_with (first
      | (go_at_call 18; ((with_reducible refine (ca w1 x1 KK1 y1).mono ?_); rintro e u2 hpost); (obtain ⟨B2, e2, g2, C2, h2, i2, rfl, O2, N2, hB2⟩ := hpost.out); clear hpost; (obtain ⟨w2, hw2⟩ : ∃ W, u2.alloc (.cells #[.int .u8 (P1).tos, .int .u16 (P1).id, .bool (P1).keep, .int .u8 (P1).ttl, .int .u8 (P1).proto, .int .u32 (P1).src, .int .u32 (P1).dst, .slice B2 e2 g2, .slice C2 h2 i2] 26) = W := ⟨_, rfl⟩); have V2 : Below u2.heap.size u2 w2 := (by rw [← hw2]; (repeat (first | with_reducible exact Below.refl _ _ | with_reducible refine below_drew ?_ | with_reducible refine below_drewN ?_ _ | with_reducible refine below_alloc ?_ (Nat.le_refl _) _ | with_reducible refine Below.setCell ?_ (by first | exact Nat.le_refl _ | (simp only []; omega)) _ | with_reducible assumption))); (obtain ⟨kS2, hkS2⟩ : ∃ k : Nat, u2.heap.size = k := ⟨_, rfl⟩); have S2 : Blk w2 kS2 #[.int .u8 (P1).tos, .int .u16 (P1).id, .bool (P1).keep, .int .u8 (P1).ttl, .int .u8 (P1).proto, .int .u32 (P1).src, .int .u32 (P1).dst, .slice B2 e2 g2, .slice C2 h2 i2] 26 := (by rw [← hw2]; exact blk_new u2 _ _ _ hkS2); have Sc2 := S2.cell; have T2 := below_then hB2 V2; have Q2 := Q1.below T2; have Qc2 := Q2.cell; clear Qc1; have M2 := M1.below T2; have Mc2 := M2.cell; clear Mc1; have x2 := x1.below T2; have y2 := y1.below T2; have R2 := below_then R1 T2)
      | (go_at_call 16; ((with_reducible refine (live03_any _).mono ?_); rintro e w3 ⟨rfl, hB3⟩); have Q3 := Q2.below hB3; have Qc3 := Q3.cell; clear Qc2; have M3 := M2.below hB3; have Mc3 := M3.cell; clear Mc2; have S3 := S2.below hB3; have Sc3 := S3.cell; clear Sc2; have x3 := x2.below hB3; have y3 := y2.below hB3; have R3 := below_then R2 hB3))
    go_ret
    exact ⟨rfl, R3⟩
theorem segsBare_walk (w : World) (p : Pkt) (hp : p.Ok) (A1 : Option Addr) (n1 c1 : Nat) (A2 : Option Addr) (n2 c2 : Nat) (k1 : Bs w A1 n1 c1 p.opt) (k2 : Bs w A2 n2 c2 p.dat) (f : Dgm) (hf : f.Ok) (B1 : Option Addr) (m1 d1 : Nat) (j1 : Bs w B1 m1 d1 f.dat) (hm1 : m1 ≤ 140737488351232) (b : Int) (b0 : 0 ≤ b) (b1 : b ≤ 255) :
    Calls Try.prog 11 #[(.agg #[.int .u8 (p).tos, .int .u16 (p).id, .bool (p).keep, .int .u8 (p).ttl, .int .u8 (p).proto, .int .u32 (p).src, .int .u32 (p).dst, .slice A1 n1 c1, .slice A2 n2 c2]), (.agg #[.int .u16 (f).src, .int .u16 (f).dst, .bool (f).bare, .slice B1 m1 d1]), .int .u8 b] w fun e w' => e = .returned (.bool true) ∧ Below w.heap.size w w' := by
  have ca := fun W k1 j1 => dbuild_any p hp A1 n1 c1 A2 n2 c2 ⟨f.src, f.dst, true, f.dat⟩ ⟨hf.src, hf.dst⟩ B1 m1 d1 W k1 j1 hm1
  have cb := fun W k1 j1 => dbuild_any p hp A1 n1 c1 A2 n2 c2 ⟨f.src, f.dst, false, f.dat⟩ ⟨hf.src, hf.dst⟩ B1 m1 d1 W k1 j1 hm1
  obtain ⟨E, hE⟩ : ∃ E, dbE p ⟨f.src, f.dst, true, f.dat⟩ = E := ⟨_, rfl⟩
  have hE2 : dbE p ⟨f.src, f.dst, false, f.dat⟩ = E := hE
  rw [hE] at ca
  rw [hE2] at cb
  by_cases h : E = 0
  · subst h
    obtain ⟨e1, o1, o2, o3⟩ := db_form hE
    obtain ⟨e2, -, -, -⟩ := db_form hE2
    have h8 : 8 + f.dat.length ≤ 65535 := by simp only at o3; omega
    rw [e1] at ca
    rw [e2] at cb
    obtain ⟨r, hr⟩ : ∃ r : Int, b % 32 = r := ⟨_, rfl⟩
    have r0 : 0 ≤ r := by omega
    have r1 : r < 32 := by omega
    have hr2 : r.toNat < 32 := by omega
    obtain ⟨S, hS⟩ : ∃ S : Int, 2 ^ r.toNat % 4294967296 = S := ⟨_, rfl⟩
    have hS2 : (2 : Int) ^ r.toNat = S := by rw [← hS, shl32 r0 r1]
    have hsum : psum p 17 (dS p ⟨f.src, f.dst, false, f.dat⟩) = 0 := dS_sum ⟨hf.src, hf.dst⟩ h8 rfl
    have g1 := psum_src hp.src.1 hp.src.2 hr2 hsum
    have X0 := (four_flip hp.src.1 hp.src.2 hr2).1
    have X1 := (four_flip hp.src.1 hp.src.2 hr2).2.1
    rw [hS2] at g1 X0 X1
    obtain ⟨X, hX⟩ : ∃ X, bits .xor .u32 p.src S = X := ⟨_, rfl⟩
    rw [hX] at g1 X0 X1
    have cp : ∀ W A1 n1 c1 A2 n2 c2, Bs W A2 n2 c2 (dS p ⟨f.src, f.dst, true, f.dat⟩) → Calls Try.prog 27 #[.agg #[.int .u8 p.tos, .int .u16 p.id, .bool p.keep, .int .u8 p.ttl, .int .u8 17, .int .u32 X, .int .u32 p.dst, .slice A1 n1 c1, .slice A2 n2 c2]] W (DgPost W ⟨f.src, f.dst, true, f.dat⟩ 0) := fun W A1 n1 c1 A2 n2 c2 k => by
      have hh := udp_any ⟨p.tos, p.id, p.keep, p.ttl, 17, X, p.dst, p.opt, dS p ⟨f.src, f.dst, true, f.dat⟩⟩ ⟨hp.tos, hp.id, hp.ttl, by show (0 : Int) ≤ 17 ∧ (17 : Int) ≤ 255; decide, ⟨X0, X1⟩, hp.dst⟩ A1 n1 c1 A2 n2 c2 W k
      have hu := ud_form (p := p) (q := ⟨p.tos, p.id, p.keep, p.ttl, 17, X, p.dst, p.opt, dS p ⟨f.src, f.dst, true, f.dat⟩⟩) (d := ⟨f.src, f.dst, true, f.dat⟩) ⟨hf.src, hf.dst⟩ h8 rfl rfl (.inl rfl)
      rw [hu.1, hu.2] at hh
      exact hh
    have cq : ∀ W A1 n1 c1 A2 n2 c2, Bs W A2 n2 c2 (dS p ⟨f.src, f.dst, false, f.dat⟩) → Calls Try.prog 27 #[.agg #[.int .u8 p.tos, .int .u16 p.id, .bool p.keep, .int .u8 p.ttl, .int .u8 17, .int .u32 X, .int .u32 p.dst, .slice A1 n1 c1, .slice A2 n2 c2]] W (DgPost W zD 5) := fun W A1 n1 c1 A2 n2 c2 k => by
      have hh := udp_any ⟨p.tos, p.id, p.keep, p.ttl, 17, X, p.dst, p.opt, dS p ⟨f.src, f.dst, false, f.dat⟩⟩ ⟨hp.tos, hp.id, hp.ttl, by show (0 : Int) ≤ 17 ∧ (17 : Int) ≤ 255; decide, ⟨X0, X1⟩, hp.dst⟩ A1 n1 c1 A2 n2 c2 W k
      have hu := ud_where (p := p) (q := ⟨p.tos, p.id, p.keep, p.ttl, 17, X, p.dst, p.opt, dS p ⟨f.src, f.dst, false, f.dat⟩⟩) (d := ⟨f.src, f.dst, false, f.dat⟩) ⟨hf.src, hf.dst⟩ h8 rfl rfl rfl g1
      have hz : udD ⟨p.tos, p.id, p.keep, p.ttl, 17, X, p.dst, p.opt, dS p ⟨f.src, f.dst, false, f.dat⟩⟩ = zD := by unfold udD; rw [if_neg (by rw [hu]; decide)]
      rw [hu, hz] at hh
      exact hh
    obtain ⟨D1, hD1⟩ : ∃ D, dS p ⟨f.src, f.dst, true, f.dat⟩ = D := ⟨_, rfl⟩
    obtain ⟨D2, hD2⟩ : ∃ D, dS p ⟨f.src, f.dst, false, f.dat⟩ = D := ⟨_, rfl⟩
    have hl1 : Hid (0 < D1.length) := by unfold Hid; rw [← hD1, dS_len]; exact Nat.lt_of_lt_of_le (by omega : 0 < 8) (Nat.le_add_right _ _)
    have hl2 : Hid (0 < D2.length) := by unfold Hid; rw [← hD2, dS_len]; exact Nat.lt_of_lt_of_le (by omega : 0 < 8) (Nat.le_add_right _ _)
    rw [hD1] at ca cp
    rw [hD2] at cb cq
    try dsimp only at ca
    try dsimp only at cb
    try dsimp only at cp
    try dsimp only at cq
    clear hE hE2 e1 e2 o1 o2 o3 hsum g1 hS2 X0 X1 hD1 hD2 h8
    obtain ⟨k, hk⟩ : ∃ k : Nat, w.heap.size = k := ⟨_, rfl⟩
    obtain ⟨w1, hw1⟩ : ∃ W, ((w.alloc (.cells #[.int .u8 (p).tos, .int .u16 (p).id, .bool (p).keep, .int .u8 (p).ttl, .int .u8 (p).proto, .int .u32 (p).src, .int .u32 (p).dst, .slice A1 n1 c1, .slice A2 n2 c2] 26)).alloc (.cells #[.int .u16 (f).src, .int .u16 (f).dst, .bool (f).bare, .slice B1 m1 d1] 37)) = W := ⟨_, rfl⟩
    have P1 : Blk w1 k #[.int .u8 (p).tos, .int .u16 (p).id, .bool (p).keep, .int .u8 (p).ttl, .int .u8 (p).proto, .int .u32 (p).src, .int .u32 (p).dst, .slice A1 n1 c1, .slice A2 n2 c2] 26 := by rw [← hw1]; exact ((blk_new _ _ _ k (by simp [hk])).alloc _)
    have F1 : Blk w1 (k + 1) #[.int .u16 (f).src, .int .u16 (f).dst, .bool (f).bare, .slice B1 m1 d1] 37 := by rw [← hw1]; exact (blk_new _ _ _ (k + 1) (by simp [hk]))
    have R1 : Below w.heap.size w w1 := by rw [← hw1]; (repeat (first | with_reducible exact Below.refl _ _ | with_reducible refine below_drew ?_ | with_reducible refine below_drewN ?_ _ | with_reducible refine below_alloc ?_ (Nat.le_refl _) _ | with_reducible refine Below.setCell ?_ (by first | exact Nat.le_refl _ | (simp only []; omega)) _ | with_reducible assumption))
    have Pc1 := P1.cell
    have Fc1 := F1.cell
    have Pl1 := P1.lt
    have Fl1 := F1.lt
    have x1 := (k1).below R1
    have z1 := (j1).below R1
    have rs1 := R1.size
    obtain ⟨w2, hw2, T2⟩ := store1 F1 2 (.bool true)
    have F2 := T2.blk
    simp only [List.setIfInBounds_toArray, List.set_cons_zero, List.set_cons_succ] at F2
    have P2 := T2.other (by omega) P1
    have Pc2 := P2.cell
    have Fc2 := F2.cell
    have Fl2 := F2.lt
    have R2 := T2.bel R1 (by omega)
    have x2 := k1.below R2
    have z2 := j1.below R2

    go_enter Try.func11, Try.ntmps11
    go_wp2_with (first
      | (go_at_call 20; ((with_reducible refine (ca w2 x2 z2).mono ?_); rintro e u3 ⟨⟨X1, xn1, xc1, Y1, yn1, yc1, rfl, xo1, yo1, hB3⟩⟩); (obtain ⟨w3, hw3⟩ : ∃ W, u3.alloc (.cells #[.int .u8 p.tos, .int .u16 p.id, .bool p.keep, .int .u8 p.ttl, .int .u8 17, .int .u32 p.src, .int .u32 p.dst, .slice X1 xn1 xc1, .slice Y1 yn1 yc1] 26) = W := ⟨_, rfl⟩); have V3 : Below u3.heap.size u3 w3 := (by rw [← hw3]; (repeat (first | with_reducible exact Below.refl _ _ | with_reducible refine below_drew ?_ | with_reducible refine below_drewN ?_ _ | with_reducible refine below_alloc ?_ (Nat.le_refl _) _ | with_reducible refine Below.setCell ?_ (by first | exact Nat.le_refl _ | (simp only []; omega)) _ | with_reducible assumption))); (obtain ⟨kA3, hkA3⟩ : ∃ k : Nat, u3.heap.size = k := ⟨_, rfl⟩); have A3 : Blk w3 kA3 #[.int .u8 p.tos, .int .u16 p.id, .bool p.keep, .int .u8 p.ttl, .int .u8 17, .int .u32 p.src, .int .u32 p.dst, .slice X1 xn1 xc1, .slice Y1 yn1 yc1] 26 := (by rw [← hw3]; exact blk_new u3 _ _ _ hkA3); have Ac3 := A3.cell; have T3 := below_then hB3 V3; have t3 := (yo1.bs).below V3; have P3 := P2.below T3; have Pc3 := P3.cell; clear Pc2; have F3 := F2.below T3; have Fc3 := F3.cell; clear Fc2; have x3 := x2.below T3; have z3 := z2.below T3; have R3 := below_then R2 T3; have yl1 : 0 < yn1 := (by have h := yo1.len; have h2 := hl1.out; dsimp only at h; omega); have kfa : k + 1 < kA3 := (by have := R2.size; have := hB3.size; omega); (obtain ⟨w4, hw4, T4⟩ := store1 F3 2 (.bool false)); have F4 := T4.blk; (simp only [List.setIfInBounds_toArray, List.set_cons_zero, List.set_cons_succ] at F4); have Fc4 := F4.cell; have P4 := T4.other (by omega) P3; have Pc4 := P4.cell; have A4 := T4.other (by omega) A3; have Ac4 := A4.cell; have R4 := T4.bel R3 (by omega); have x4 := k1.below R4; have z4 := j1.below R4; have t4 := T4.bs t3 (fun a e => by have := yo1.ge a e; omega))
      
      | (go_at_call 20; ((with_reducible refine (cb w4 x4 z4).mono ?_); rintro e u5 ⟨⟨X3, xn3, xc3, Y3, yn3, yc3, rfl, xo3, yo3, hB5⟩⟩); (obtain ⟨w5, hw5⟩ : ∃ W, u5.alloc (.cells #[.int .u8 p.tos, .int .u16 p.id, .bool p.keep, .int .u8 p.ttl, .int .u8 17, .int .u32 p.src, .int .u32 p.dst, .slice X3 xn3 xc3, .slice Y3 yn3 yc3] 26) = W := ⟨_, rfl⟩); have V5 : Below u5.heap.size u5 w5 := (by rw [← hw5]; (repeat (first | with_reducible exact Below.refl _ _ | with_reducible refine below_drew ?_ | with_reducible refine below_drewN ?_ _ | with_reducible refine below_alloc ?_ (Nat.le_refl _) _ | with_reducible refine Below.setCell ?_ (by first | exact Nat.le_refl _ | (simp only []; omega)) _ | with_reducible assumption))); (obtain ⟨kB5, hkB5⟩ : ∃ k : Nat, u5.heap.size = k := ⟨_, rfl⟩); have B5 : Blk w5 kB5 #[.int .u8 p.tos, .int .u16 p.id, .bool p.keep, .int .u8 p.ttl, .int .u8 17, .int .u32 p.src, .int .u32 p.dst, .slice X3 xn3 xc3, .slice Y3 yn3 yc3] 26 := (by rw [← hw5]; exact blk_new u5 _ _ _ hkB5); have Bc5 := B5.cell; have T5 := below_then hB5 V5; have v5 := (yo3.bs).below V5; have P5 := P4.below T5; have Pc5 := P5.cell; clear Pc4; have F5 := F4.below T5; have Fc5 := F5.cell; clear Fc4; have A5 := A4.below T5; have Ac5 := A5.cell; clear Ac4; have x5 := x4.below T5; have z5 := z4.below T5; have t5 := t4.below T5; have R5 := below_then R4 T5; have yl3 : 0 < yn3 := (by have h := yo3.len; have h2 := hl2.out; dsimp only at h; omega); have kab : kA3 < kB5 := (by have := A4.lt; have := hB5.size; omega); have al5 := A5.lt; have bl5 := B5.lt; (obtain ⟨w6, hw6, T6⟩ := store1 A5 5 (.int .u32 X)); have A6 := T6.blk; (simp only [List.setIfInBounds_toArray, List.set_cons_zero, List.set_cons_succ] at A6); have Ac6 := A6.cell; have B6 := T6.other (by omega) B5; have Bc6 := B6.cell; have bl6 := B6.lt; have F6 := T6.other (by omega) F5; have R6 := T6.bel R5 (by omega); have t6 := T6.bs t5 ((yo1.bs).ne_ yl1 (Nat.le_of_eq hkA3)); have v6 := T6.bs v5 (fun a e => by have := yo3.ge a e; have := A4.lt; omega); (obtain ⟨w7, hw7, T7⟩ := store1 B6 5 (.int .u32 X)); have B7 := T7.blk; (simp only [List.setIfInBounds_toArray, List.set_cons_zero, List.set_cons_succ] at B7); have Bc7 := B7.cell; have A7 := T7.other (by omega) A6; have Ac7 := A7.cell; have F7 := T7.other (by omega) F6; have Fc7 := F7.cell; have R7 := T7.bel R6 (by omega); have t7 := T7.bs t6 (fun a e => by have h1 := (yo1.bs).lt_ yl1 a e; omega); have v7 := T7.bs v6 ((yo3.bs).ne_ yl3 (Nat.le_of_eq hkB5)); have z7 := j1.below R7)
      
      | (go_at_call 27; ((with_reducible refine (cp w7 X1 xn1 xc1 Y1 yn1 yc1 t7).mono ?_); rintro e u8 ⟨⟨Z1, zn1, zc1, rfl, ZZ, hB8⟩⟩); (obtain ⟨w8, hw8⟩ : ∃ W, u8.alloc (.cells #[.int .u16 f.src, .int .u16 f.dst, .bool true, .slice Z1 zn1 zc1] 37) = W := ⟨_, rfl⟩); have V8 : Below u8.heap.size u8 w8 := (by rw [← hw8]; (repeat (first | with_reducible exact Below.refl _ _ | with_reducible refine below_drew ?_ | with_reducible refine below_drewN ?_ _ | with_reducible refine below_alloc ?_ (Nat.le_refl _) _ | with_reducible refine Below.setCell ?_ (by first | exact Nat.le_refl _ | (simp only []; omega)) _ | with_reducible assumption))); (obtain ⟨kL8, hkL8⟩ : ∃ k : Nat, u8.heap.size = k := ⟨_, rfl⟩); have L8 : Blk w8 kL8 #[.int .u16 f.src, .int .u16 f.dst, .bool true, .slice Z1 zn1 zc1] 37 := (by rw [← hw8]; exact blk_new u8 _ _ _ hkL8); have Lc8 := L8.cell; have T8 := below_then hB8 V8; have d8 := (ZZ.bs).below V8; have F8 := F7.below T8; have Fc8 := F8.cell; clear Fc7; have A8 := A7.below T8; have Ac8 := A8.cell; clear Ac7; have B8 := B7.below T8; have Bc8 := B8.cell; clear Bc7; have z8 := z7.below T8; have t8 := t7.below T8; have v8 := v7.below T8; have R8 := below_then R7 T8)
      | (go_at_call 27; ((with_reducible refine (cq w8 X3 xn3 xc3 Y3 yn3 yc3 v8).mono ?_); rintro e u9 ⟨⟨Z2, zn2, zc2, rfl, ZY, hB9⟩⟩); (obtain ⟨w9, hw9⟩ : ∃ W, u9.alloc (.cells #[.int .u16 (zD).src, .int .u16 (zD).dst, .bool (zD).bare, .slice Z2 zn2 zc2] 37) = W := ⟨_, rfl⟩); have V9 : Below u9.heap.size u9 w9 := (by rw [← hw9]; (repeat (first | with_reducible exact Below.refl _ _ | with_reducible refine below_drew ?_ | with_reducible refine below_drewN ?_ _ | with_reducible refine below_alloc ?_ (Nat.le_refl _) _ | with_reducible refine Below.setCell ?_ (by first | exact Nat.le_refl _ | (simp only []; omega)) _ | with_reducible assumption))); (obtain ⟨kM9, hkM9⟩ : ∃ k : Nat, u9.heap.size = k := ⟨_, rfl⟩); have M9 : Blk w9 kM9 #[.int .u16 (zD).src, .int .u16 (zD).dst, .bool (zD).bare, .slice Z2 zn2 zc2] 37 := (by rw [← hw9]; exact blk_new u9 _ _ _ hkM9); have Mc9 := M9.cell; have T9 := below_then hB9 V9; have F9 := F8.below T9; have Fc9 := F9.cell; clear Fc8; have A9 := A8.below T9; have Ac9 := A9.cell; clear Ac8; have B9 := B8.below T9; have Bc9 := B9.cell; clear Bc8; have L9 := L8.below T9; have Lc9 := L9.cell; clear Lc8; have z9 := z8.below T9; have t9 := t8.below T9; have v9 := v8.below T9; have d9 := d8.below T9; have R9 := below_then R8 T9)
      | (go_at_call 16; ((with_reducible refine (live03_any w9).mono ?_); rintro e w10 ⟨rfl, hB10⟩); have F10 := F9.below hB10; have Fc10 := F10.cell; clear Fc9; have A10 := A9.below hB10; have Ac10 := A10.cell; clear Ac9; have B10 := B9.below hB10; have Bc10 := B10.cell; clear Bc9; have L10 := L9.below hB10; have Lc10 := L10.cell; clear Lc9; have M10 := M9.below hB10; have Mc10 := M10.cell; clear Mc9; have z10 := z9.below hB10; have t10 := t9.below hB10; have v10 := v9.below hB10; have d10 := d9.below hB10; have R10 := below_then R9 hB10; have cv1 := cv d10; have cv2 := cv z10))
    go_ret
    exact ⟨rfl, R10⟩
  · have he : (E != 0) = true := by simpa using h
    clear h hE hE2
    obtain ⟨a1, ha1⟩ : ∃ a, dbP p ⟨f.src, f.dst, true, f.dat⟩ = a := ⟨_, rfl⟩
    obtain ⟨a2, ha2⟩ : ∃ a, dbP p ⟨f.src, f.dst, false, f.dat⟩ = a := ⟨_, rfl⟩
    rw [ha1] at ca
    rw [ha2] at cb
    try dsimp only at ca
    try dsimp only at cb
    clear ha1 ha2
    obtain ⟨k, hk⟩ : ∃ k : Nat, w.heap.size = k := ⟨_, rfl⟩
    obtain ⟨w1, hw1⟩ : ∃ W, ((w.alloc (.cells #[.int .u8 (p).tos, .int .u16 (p).id, .bool (p).keep, .int .u8 (p).ttl, .int .u8 (p).proto, .int .u32 (p).src, .int .u32 (p).dst, .slice A1 n1 c1, .slice A2 n2 c2] 26)).alloc (.cells #[.int .u16 (f).src, .int .u16 (f).dst, .bool (f).bare, .slice B1 m1 d1] 37)) = W := ⟨_, rfl⟩
    have P1 : Blk w1 k #[.int .u8 (p).tos, .int .u16 (p).id, .bool (p).keep, .int .u8 (p).ttl, .int .u8 (p).proto, .int .u32 (p).src, .int .u32 (p).dst, .slice A1 n1 c1, .slice A2 n2 c2] 26 := by rw [← hw1]; exact ((blk_new _ _ _ k (by simp [hk])).alloc _)
    have F1 : Blk w1 (k + 1) #[.int .u16 (f).src, .int .u16 (f).dst, .bool (f).bare, .slice B1 m1 d1] 37 := by rw [← hw1]; exact (blk_new _ _ _ (k + 1) (by simp [hk]))
    have R1 : Below w.heap.size w w1 := by rw [← hw1]; (repeat (first | with_reducible exact Below.refl _ _ | with_reducible refine below_drew ?_ | with_reducible refine below_drewN ?_ _ | with_reducible refine below_alloc ?_ (Nat.le_refl _) _ | with_reducible refine Below.setCell ?_ (by first | exact Nat.le_refl _ | (simp only []; omega)) _ | with_reducible assumption))
    have Pc1 := P1.cell
    have Fc1 := F1.cell
    have Pl1 := P1.lt
    have Fl1 := F1.lt
    have x1 := (k1).below R1
    have z1 := (j1).below R1
    have rs1 := R1.size
    obtain ⟨w2, hw2, T2⟩ := store1 F1 2 (.bool true)
    have F2 := T2.blk
    simp only [List.setIfInBounds_toArray, List.set_cons_zero, List.set_cons_succ] at F2
    have P2 := T2.other (by omega) P1
    have Pc2 := P2.cell
    have Fc2 := F2.cell
    have Fl2 := F2.lt
    have R2 := T2.bel R1 (by omega)
    have x2 := k1.below R2
    have z2 := j1.below R2

    go_enter Try.func11, Try.ntmps11
    go_wp2_with (first
      | (go_at_call 20; ((with_reducible refine (ca w2 x2 z2).mono ?_); rintro e u3 ⟨⟨X1, xn1, xc1, Y1, yn1, yc1, rfl, xo1, yo1, hB3⟩⟩); (obtain ⟨w3, hw3⟩ : ∃ W, u3.alloc (.cells #[.int .u8 (a1).tos, .int .u16 (a1).id, .bool (a1).keep, .int .u8 (a1).ttl, .int .u8 (a1).proto, .int .u32 (a1).src, .int .u32 (a1).dst, .slice X1 xn1 xc1, .slice Y1 yn1 yc1] 26) = W := ⟨_, rfl⟩); have V3 : Below u3.heap.size u3 w3 := (by rw [← hw3]; (repeat (first | with_reducible exact Below.refl _ _ | with_reducible refine below_drew ?_ | with_reducible refine below_drewN ?_ _ | with_reducible refine below_alloc ?_ (Nat.le_refl _) _ | with_reducible refine Below.setCell ?_ (by first | exact Nat.le_refl _ | (simp only []; omega)) _ | with_reducible assumption))); (obtain ⟨kA3, hkA3⟩ : ∃ k : Nat, u3.heap.size = k := ⟨_, rfl⟩); have A3 : Blk w3 kA3 #[.int .u8 (a1).tos, .int .u16 (a1).id, .bool (a1).keep, .int .u8 (a1).ttl, .int .u8 (a1).proto, .int .u32 (a1).src, .int .u32 (a1).dst, .slice X1 xn1 xc1, .slice Y1 yn1 yc1] 26 := (by rw [← hw3]; exact blk_new u3 _ _ _ hkA3); have Ac3 := A3.cell; have T3 := below_then hB3 V3; have P3 := P2.below T3; have Pc3 := P3.cell; clear Pc2; have F3 := F2.below T3; have Fc3 := F3.cell; clear Fc2; have x3 := x2.below T3; have z3 := z2.below T3; have R3 := below_then R2 T3; have kfa : k + 1 < kA3 := (by have := R2.size; have := hB3.size; omega); (obtain ⟨w4, hw4, T4⟩ := store1 F3 2 (.bool false)); have F4 := T4.blk; (simp only [List.setIfInBounds_toArray, List.set_cons_zero, List.set_cons_succ] at F4); have Fc4 := F4.cell; have P4 := T4.other (by omega) P3; have Pc4 := P4.cell; have A4 := T4.other (by omega) A3; have Ac4 := A4.cell; have R4 := T4.bel R3 (by omega); have x4 := k1.below R4; have z4 := j1.below R4)
      
      | (go_at_call 20; ((with_reducible refine (cb w4 x4 z4).mono ?_); rintro e u5 ⟨⟨X3, xn3, xc3, Y3, yn3, yc3, rfl, xo3, yo3, hB5⟩⟩); (obtain ⟨w5, hw5⟩ : ∃ W, u5.alloc (.cells #[.int .u8 (a2).tos, .int .u16 (a2).id, .bool (a2).keep, .int .u8 (a2).ttl, .int .u8 (a2).proto, .int .u32 (a2).src, .int .u32 (a2).dst, .slice X3 xn3 xc3, .slice Y3 yn3 yc3] 26) = W := ⟨_, rfl⟩); have V5 : Below u5.heap.size u5 w5 := (by rw [← hw5]; (repeat (first | with_reducible exact Below.refl _ _ | with_reducible refine below_drew ?_ | with_reducible refine below_drewN ?_ _ | with_reducible refine below_alloc ?_ (Nat.le_refl _) _ | with_reducible refine Below.setCell ?_ (by first | exact Nat.le_refl _ | (simp only []; omega)) _ | with_reducible assumption))); (obtain ⟨kB5, hkB5⟩ : ∃ k : Nat, u5.heap.size = k := ⟨_, rfl⟩); have B5 : Blk w5 kB5 #[.int .u8 (a2).tos, .int .u16 (a2).id, .bool (a2).keep, .int .u8 (a2).ttl, .int .u8 (a2).proto, .int .u32 (a2).src, .int .u32 (a2).dst, .slice X3 xn3 xc3, .slice Y3 yn3 yc3] 26 := (by rw [← hw5]; exact blk_new u5 _ _ _ hkB5); have Bc5 := B5.cell; have T5 := below_then hB5 V5; have P5 := P4.below T5; have Pc5 := P5.cell; clear Pc4; have F5 := F4.below T5; have Fc5 := F5.cell; clear Fc4; have A5 := A4.below T5; have Ac5 := A5.cell; clear Ac4; have x5 := x4.below T5; have z5 := z4.below T5; have R5 := below_then R4 T5)
      | (go_at_call 16; ((with_reducible refine (live03_any w5).mono ?_); rintro e w6 ⟨rfl, hB6⟩); have P6 := P5.below hB6; have Pc6 := P6.cell; clear Pc5; have F6 := F5.below hB6; have Fc6 := F6.cell; clear Fc5; have A6 := A5.below hB6; have Ac6 := A6.cell; clear Ac5; have B6 := B5.below hB6; have Bc6 := B6.cell; clear Bc5; have x6 := x5.below hB6; have z6 := z5.below hB6; have R6 := below_then R5 hB6))
    go_ret
    exact ⟨rfl, R6⟩
end Go.Proofs.Ytjjhnjkmoogloaa

/- The Go law SegsBare: for every input the call returns true and each argument reads as it did. No other condition. -/
namespace Go.Proofs.Ytjjhnjkmoogloaa.segsBare
open Go.ChangeShapes Go.WideShapes Go.ChangeAt Go.RowKit
set_option linter.unusedVariables false
set_option maxRecDepth 100000 in
theorem lifted (os : Go.Os) (started : os.Started) (H : Type) (enc : TypeId × Value → H) :
    ReturnsInHanded {} Try.checked os 11 .any (Rows.segsBareSpec.pre6 enc Try.prog Try.f11 Rows.segsBareRow.domain false) (Rows.segsBareSpec.post enc Try.prog Try.f11 false true false false) := by
  refine returnsInHanded_of_change_sized (C := Try.checked) own_knob started (by kernel_rfl) Try.func11
    (ChangeSpec.witness6 (enc := enc) (C := Try.checked) false ⟨#[], #[.agg #[.int .u8 0, .int .u16 0, .bool false, .int .u8 0, .int .u8 0, .int .u32 0, .int .u32 0, .slice none 0 0, .slice none 0 0], .agg #[.int .u16 0, .int .u16 0, .bool false, .slice none 0 0], .int .u8 0], []⟩ 8 (by kernel_rfl) (by kernel_rfl) (by kernel_rfl) (by kernel_rfl)) ?_
  intro W base args ds gs before hval0 hW hcnd hsz0 hholds
  have hval : ∀ (j : Nat) t v, Try.f11.params[j]? = some t → args[j]? = some v → Value.okWide Try.prog W .any base t v := hval0
  have hW' := hW
  obtain ⟨p, q, hA0, hV, rfl, hfz, hnd⟩ := hW
  obtain ⟨rfl, rfl⟩ := trodVars_none hV
  have hA : DataW.TrodAll enc Try.prog W 0 (fun _ => true) true Try.f11.params.toList args.toList ds p := hA0
  have hsz : (DataW.weightsEach Try.prog [26, 37, 5] (ds ++ [])).all (· ≤ reachBytes) = true := hsz0
  simp only [List.append_nil] at hsz
  rw [Try.params11] at hA hval
  obtain ⟨v0, vs0, d0, ds0, p0, q0, hargs, rfl, rfl, h0, r0⟩ := trodAll_cons hA
  obtain ⟨v1, vs1, d1, ds1, p1, q1, rfl, rfl, rfl, h1, r1⟩ := trodAll_cons r0
  obtain ⟨v2, vs2, d2, ds2, p2, q2, rfl, rfl, rfl, h2, r2⟩ := trodAll_cons r1
  obtain ⟨rfl, rfl, rfl⟩ := trodAll_nil r2
  obtain rfl : args = #[v0, v1, v2] := by cases args; simp_all
  obtain ⟨pk0, A0, n0, c0, B0, m0, e0, rfl, ok0, ka0, kb0⟩ := open_pkt (hval 0 26 v0 rfl rfl) h0 (fun n hn => by simpa using List.all_eq_true.1 hsz n (DataW.weights_mem_each (j := 0) rfl rfl n hn))
  obtain ⟨dg1, A1, n1, c1, rfl, ok1, ka1, hm1⟩ := open_dgm (hval 1 37 v1 rfl rfl) h1 (fun n hn => by simpa using List.all_eq_true.1 hsz n (DataW.weights_mem_each (j := 1) rfl rfl n hn))
  obtain ⟨a2, rfl, rfl, rfl, w2⟩ := open_int Try.underlying5 (hval 2 5 v2 rfl rfl) h2
  have b2 : 0 ≤ a2 ∧ a2 ≤ 255 := by simpa [Lit.wf, IntKind.min, IntKind.max, IntKind.signed, IntKind.bits] using w2
  refine (segsBare_walk W pk0 ok0 A0 n0 c0 B0 m0 e0 ka0 kb0 dg1 ok1 A1 n1 c1 ka1 hm1 a2 b2.1 b2.2).mono fun e W' ⟨he, bel⟩ => ?_
  subst he
  exact ⟨_, rfl, law_post Try.underlying4 rfl laid_out (by kernel_rfl) rfl rfl hW' bel⟩
theorem proved : Rows.SegsBareSaid :=
  OpenClaim.holds_of_wide 11 Try.f11 rfl rfl rfl rfl rfl rfl rfl ⟨rfl, rfl, rfl, rfl, rfl⟩ rfl rfl rfl rfl rfl (by kernel_rfl) Try.func11 (by kernel_rfl)
    (of_decide_eq_true (by kernel_rfl)) (by unfold Func.isWrapper; first | (rw [if_pos (by decide +kernel)]; kernel_rfl) | (rw [if_neg (by decide +kernel)]; exact ⟨rfl, rfl⟩))
    (fun os started H enc _ => lifted os started H enc)
end Go.Proofs.Ytjjhnjkmoogloaa.segsBare
#print axioms Go.Proofs.Ytjjhnjkmoogloaa.segsBare.proved

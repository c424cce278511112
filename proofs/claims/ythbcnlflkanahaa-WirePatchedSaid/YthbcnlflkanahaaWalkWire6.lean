import Derived.Test.YthbcnlflkanahaaLive1
import Derived.Test.YthbcnlflkanahaaMath2
import Derived.Test.YthbcnlflkanahaaReg
import Derived.Test.YthbcnlflkanahaaWire
import Derived.BigQuiet
namespace Go.Proofs.Ythbcnlflkanahaa
open Go.RowKit
set_option linter.unusedVariables false

theorem patch_lo (s a b : Int) : 0 ≤ patch s a b := by unfold patch; have := fd_hi ((65535 - s) + (65535 - a) + b); omega
theorem patch_hi (s a b : Int) : patch s a b ≤ 65535 := by unfold patch; have := fd_lo ((65535 - s) + (65535 - a) + b); omega
/-- All bytes ahead of j are zero. -/
def allZ (l : List UInt8) (j : Nat) : Bool := decide (∀ i, i < j → bt l i = 0)
theorem allZ_zero (l : List UInt8) : allZ l 0 = true := by simp [allZ]
theorem allZ_succ (l : List UInt8) (j : Nat) : allZ l (j + 1) = (allZ l j && bt l j == 0) := by
  rw [Bool.eq_iff_iff]
  simp only [allZ, decide_eq_true_eq, Bool.and_eq_true, beq_iff_eq]
  exact ⟨fun h => ⟨fun i hi => h i (by omega), h j (by omega)⟩, fun ⟨h1, h2⟩ i hi => by
    by_cases e : i = j
    · subst e; exact h2
    · exact h1 i (by omega)⟩

theorem wirePatched_walk (w : World) (A : Option Addr) (n c : Nat) (l : List UInt8) (hb : Bs w A n c l) (p : Int) (p0 : 0 ≤ p) (p1 : p ≤ 65535) (q : Int) (q0 : 0 ≤ q) (q1 : q ≤ 65535) (v : Int) (v0 : 0 ≤ v) (v1 : v ≤ 65535) :
    Calls Try.prog 9 #[.slice A n c, .agg #[.int .u16 p, .int .u16 q], .int .u16 v] w fun e w' => e = .returned (.bool true) ∧ Below w.heap.size w w' := by
  go_enter Try.func9, Try.ntmps9
  go_wp2_with fail
  have hB0 := below_alloc (Below.refl w.heap.size w) (Nat.le_refl _) (.cells #[.int .u16 p, .int .u16 q] 37)
  have hb0 := hb.below hB0
  refine (few_any A n c l _ hb0).mono ?_
  rintro e w1 ⟨A1, n1, c1, lt, rfl, hb1, u1, rfl⟩
  by_cases t1 : (n1 : Int) % 2 = 0
  · have t2 : ((n1 : Int) % 2 != 0) = false := by simpa using t1
    by_cases t3 : (n1 : Int) < 4
    · go_wp2_with (go_at_call 15; ((with_reducible refine (live1_any _).mono ?_); rintro e w7 ⟨rfl, hB7⟩); have hT := below_then hB0 hB7)
      go_ret
      exact ⟨rfl, hT⟩
    · obtain ⟨h, hh⟩ : ∃ h : Int, (n1 : Int) / 2 = h := ⟨_, rfl⟩
      have h2 : 2 ≤ h := by omega
      have h3 : h ≤ 2500 := by omega
      have hne : (h == 0) = false := by simp; omega
      have a0 : 0 ≤ p % h := Int.emod_nonneg _ (by omega)
      have a1 : p % h < h := Int.emod_lt_of_pos _ (by omega)
      have b0 : 0 ≤ q % h := Int.emod_nonneg _ (by omega)
      have b1 : q % h < h := Int.emod_lt_of_pos _ (by omega)
      obtain ⟨a, ha⟩ : ∃ a : Int, p % h = a := ⟨_, rfl⟩
      obtain ⟨b, hb'⟩ : ∃ b : Int, q % h = b := ⟨_, rfl⟩
      rw [ha] at a0 a1
      rw [hb'] at b0 b1
      obtain ⟨k, hk⟩ : ∃ k : Int, a * 2 = k := ⟨_, rfl⟩
      obtain ⟨m, hm⟩ : ∃ m : Int, b * 2 = m := ⟨_, rfl⟩
      have hkw : wrap64 k = k := by unfold wrap64; omega
      have hmw : wrap64 m = m := by unfold wrap64; omega
      have T1 := Lib.hid t1
      clear t1
      by_cases e : k = m
      · have e' : (k == m) = true := by simpa using e
        clear e
        go_wp2_with (first
          | (go_quiet (fail))
          | (go_at_call 15; ((with_reducible refine (live1_any _).mono ?_); rintro e w7 ⟨rfl, hB7⟩); have hT := below_then (below_drewN hB0 _) hB7))
        go_ret
        exact ⟨rfl, hT⟩
      · have e' : (k == m) = false := by simpa using e
        have E := Lib.hid e
        clear e
        have hlen := hb1.len
        obtain ⟨Z, hZ⟩ : ∃ Z, put16 lt k 0 = Z := ⟨_, rfl⟩
        obtain ⟨s, hs⟩ : ∃ s, csum Z = s := ⟨_, rfl⟩
        obtain ⟨G, hG⟩ : ∃ G, put16 Z k s = G := ⟨_, rfl⟩
        obtain ⟨x, hx⟩ : ∃ x, get16 G m = x := ⟨_, rfl⟩
        obtain ⟨C, hC⟩ : ∃ C, put16 G m v = C := ⟨_, rfl⟩
        obtain ⟨y, hy⟩ : ∃ y, patch s x v = y := ⟨_, rfl⟩
        obtain ⟨D, hD⟩ : ∃ D, put16 C k y = D := ⟨_, rfl⟩
        have s0 : 0 ≤ s := by rw [← hs]; exact csum_lo Z
        have s1 : s ≤ 65535 := by rw [← hs]; exact csum_hi Z
        have x0 : 0 ≤ x := by rw [← hx]; exact get16_lo G m
        have x1 : x ≤ 65535 := by rw [← hx]; exact get16_hi G m
        have y0 : 0 ≤ y := by rw [← hy]; exact patch_lo s x v
        have y1 : y ≤ 65535 := by rw [← hy]; exact patch_hi s x v
        obtain ⟨ka, rfl⟩ := Int.eq_ofNat_of_zero_le a0
        obtain ⟨mb, rfl⟩ := Int.eq_ofNat_of_zero_le b0
        have kk : k = ((2 * ka : Nat) : Int) := by omega
        have mm : m = ((2 * mb : Nat) : Int) := by omega
        have l1 : 2 * ka + 2 ≤ lt.length := by omega
        have l2 : 2 * mb + 2 ≤ lt.length := by omega
        have ne : ka ≠ mb := by intro h; apply E.out; omega
        have zl : Z.length = lt.length := by rw [← hZ, put16_length]
        have z0 : wd Z ka = 0 := by rw [← hZ, kk]; exact wd_put16_same (by omega) (by omega) l1
        have g1 : (csum G == 0) = true := by
          rw [← hG, kk, ← hs, good_put (by omega) z0]; rfl
        have hxw : x = wd Z mb := by
          rw [← hx, ← hG, mm, get16_wd (by rw [put16_length]; omega), kk]
          exact wd_put16_other s0 s1 (by omega) (Ne.symm ne)
        have g2 : allZ D n1 = false → (csum D == 0) = true := by
          intro hf
          have hf' : ∃ i, bt D i ≠ 0 := by
            simp only [allZ, decide_eq_false_iff_not] at hf
            refine Classical.byContradiction fun hc => hf fun i _ => Classical.byContradiction fun hi => hc ⟨i, hi⟩
          rw [← hD, ← hC, ← hG, ← hy, hxw, ← hs, kk, mm] at hf'
          have := patched_good (b := Z) v0 v1 (by omega) (by omega) ne z0 hf'
          rw [← hD, ← hC, ← hG, ← hy, hxw, ← hs, kk, mm, this]; rfl
        have G2 := Lib.hid g2
        have KZ := Lib.hid hZ
        have KG := Lib.hid hG
        have KC := Lib.hid hC
        have KD := Lib.hid hD
        clear hZ hG hC hD kk mm l1 l2 ne zl z0 hxw g2 hlen
        go_wp2_with (first
          | (go_quiet (fail))
          | (go_at_call 23; ((with_reducible refine (put16_any A1 n1 c1 lt k 0 (by omega) (by omega) _ (hb1.drewN _)).mono ?_); rintro e w2 ⟨A2, c2, rfl, ho2, hB2⟩); have k2 : Bs w2 A2 n1 c2 Z := (by have := ho2.bs; rw [KZ.out] at this; exact this); have T2 := below_then (below_drewN hB0 _) hB2)
          | (go_at_call 17; ((with_reducible refine (sum_any A2 n1 c2 Z w2 k2).mono ?_); rintro e w3 ⟨rfl, hB3⟩); have k3 := k2.below hB3; have T3 := below_then T2 hB3)
          | (go_at_call 23; ((with_reducible refine (put16_any A2 n1 c2 Z k s s0 s1 w3 k3).mono ?_); rintro e w4 ⟨A4, c4, rfl, ho4, hB4⟩); have g4 : Bs w4 A4 n1 c4 G := (by have := ho4.bs; rw [KG.out] at this; exact this); have T4 := below_then T3 hB4)
          | (go_at_call 24; ((with_reducible refine (get16_any A4 n1 c4 G m w4 g4).mono ?_); rintro e w5 ⟨rfl, hD5⟩); have g5 := g4.below hD5.bel; have T5 := below_then T4 hD5.bel)
          | (go_at_call 23; ((with_reducible refine (put16_any A4 n1 c4 G m v v0 v1 w5 g5).mono ?_); rintro e w6 ⟨A6, c6, rfl, ho6, hB6⟩); have c6' : Bs w6 A6 n1 c6 C := (by have := ho6.bs; rw [KC.out] at this; exact this); have g6 := g5.below hB6; have T6 := below_then T5 hB6)
          | (go_at_call 21; ((with_reducible refine (patch_any s x v s0 s1 x0 x1 v0 v1 w6).mono ?_); rintro e w7 ⟨rfl, rfl⟩))
          | (go_at_call 23; ((with_reducible refine (put16_any A6 n1 c6 C k y y0 y1 w6 c6').mono ?_); rintro e w8 ⟨A8, c8, rfl, ho8, hB8⟩); have d8 : Bs w8 A8 n1 c8 D := (by have := ho8.bs; rw [KD.out] at this; exact this); have g8 := g6.below hB8; have T8 := below_then T6 hB8))
        go_loopw [14, 15] (fun z i wr => ∃ j : Nat, j ≤ n1 ∧ i = .int .i64 j ∧ z = .bool (allZ D j) ∧ Bs wr A8 n1 c8 D ∧ Bs wr A4 n1 c4 G ∧ Below w.heap.size w wr) (fun _ i _ => n1 - (intOf i).toNat)
        case atStart => exact ⟨0, by omega, rfl, rfl, d8, g8, T8⟩
        case round =>
          obtain ⟨j, hj, rfl, rfl, d9, g9, T9⟩ := hrel
          clear hk hm ha hb' hh e' T1 E
          by_cases hlt : j < n1
          · obtain ⟨g, o, rfl, hc⟩ := d9.rd (by omega)
            have i0 : (0 : Int) ≤ j := by omega
            have i1 : (j : Int) < n1 := by omega
            have cd := hc j hlt
            have HS := Lib.hid (allZ_succ D j)
            clear hc
            cases hz : allZ D j with
            | false =>
              go_wp2
              exact ⟨⟨j + 1, by omega, by go_num, by rw [HS.out, hz]; rfl, d9, g9, T9⟩, by simp [intOf]; omega⟩
            | true =>
              go_wp2
              exact ⟨⟨j + 1, by omega, by go_num, by rw [HS.out, hz]; rfl, d9, g9, T9⟩, by simp [intOf]; omega⟩
          · obtain rfl : j = n1 := by omega
            cases hz : allZ D j with
            | false =>
              have g3 := G2.out hz
              clear G2
              go_wp2_with (first
                | (go_at_call 15; ((with_reducible refine (live1_any wr).mono ?_); rintro e v1 ⟨rfl, hB1⟩); have g10 := g9.below hB1; have d10 := d9.below hB1; have T10 := below_then T9 hB1)
                | (go_at_call 19; ((with_reducible refine (good_any A4 j c4 G v1 g10).mono ?_); rintro e v2 ⟨rfl, hB2⟩); have d11 := d10.below hB2; have T11 := below_then T10 hB2)
                | (go_at_call 19; ((with_reducible refine (good_any A8 j c8 D v2 d11).mono ?_); rintro e v3 ⟨rfl, hB3⟩); have T12 := below_then T11 hB3))
              go_ret
              exact ⟨rfl, T12⟩
            | true =>
              clear G2
              go_wp2_with (first
                | (go_at_call 15; ((with_reducible refine (live1_any wr).mono ?_); rintro e v1 ⟨rfl, hB1⟩); have g10 := g9.below hB1; have T10 := below_then T9 hB1)
                | (go_at_call 19; ((with_reducible refine (good_any A4 j c4 G v1 g10).mono ?_); rintro e v2 ⟨rfl, hB2⟩); have T11 := below_then T10 hB2))
              go_ret
              exact ⟨rfl, T11⟩
  · have t2 : ((n1 : Int) % 2 != 0) = true := by simpa using t1
    go_wp2_with (go_at_call 15; ((with_reducible refine (live1_any _).mono ?_); rintro e w7 ⟨rfl, hB7⟩); have hT := below_then hB0 hB7)
    go_ret
    exact ⟨rfl, hT⟩
end Go.Proofs.Ythbcnlflkanahaa

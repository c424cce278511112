import Derived.Test.YthbcnlflkanahaaLive1
import Derived.Test.YthbcnlflkanahaaMath1
namespace Go.Proofs.Ythbcnlflkanahaa
open Go.RowKit
set_option linter.unusedVariables false
set_option maxHeartbeats 800000

theorem wirePatches_walk (w : World) (s : Int) (s0 : 0 ≤ s) (s1 : s ≤ 65535) (a : Int) (a0 : 0 ≤ a) (a1 : a ≤ 65535) (b : Int) (b0 : 0 ≤ b) (b1 : b ≤ 65535) :
    Calls Try.prog 7 #[.int .u16 s, .int .u16 a, .int .u16 b] w fun e w' => e = .returned (.bool true) ∧ Below w.heap.size w w' := by
  go_enter Try.func7, Try.ntmps7
  go_wp2_with (first
    | (go_at_call 15; ((with_reducible refine (live1_any w).mono ?_); rintro e w1 ⟨rfl, hB⟩))
    | (go_at_call 21; ((with_reducible refine (patch_any s a b s0 s1 a0 a1 b0 b1 _).mono ?_); rintro e w2 ⟨rfl, rfl⟩))
    | (go_at_call 22; ((with_reducible refine (rpatch_any s a b s0 s1 a0 a1 b0 b1 _).mono ?_); rintro e w3 ⟨rfl, rfl⟩)))
  go_ret
  exact ⟨rfl, hB⟩

theorem wireSums_walk (w : World) (A : Option Addr) (n c : Nat) (l : List UInt8) (hb : Bs w A n c l) :
    Calls Try.prog 6 #[.slice A n c] w fun e w' => e = .returned (.bool true) ∧ Below w.heap.size w w' := by
  go_enter Try.func6, Try.ntmps6
  go_wp2_with (first
    | (go_at_call 16; ((with_reducible refine (few_any A n c l w hb).mono ?_); rintro e w1 ⟨A1, n1, c1, l1, rfl, hb1, hn1, rfl⟩))
    | (go_at_call 15; ((with_reducible refine (live1_any w).mono ?_); rintro e w2 ⟨rfl, hB⟩); replace hb1 := hb1.below hB)
    | (go_at_call 17; ((with_reducible refine (sum_any A1 n1 c1 _ w2 hb1).mono ?_); rintro e w3 ⟨rfl, hB3⟩); replace hb1 := hb1.below hB3; replace hB := below_then hB hB3)
    | (go_at_call 18; ((with_reducible refine (rsum_any A1 n1 c1 _ (by omega) w3 hb1).mono ?_); rintro e w4 ⟨rfl, hB4⟩); replace hb1 := hb1.below hB4; replace hB := below_then hB hB4)
    | (go_at_call 19; ((with_reducible refine (good_any A1 n1 c1 _ w4 hb1).mono ?_); rintro e w5 ⟨rfl, hB5⟩); replace hb1 := hb1.below hB5; replace hB := below_then hB hB5)
    | (go_at_call 20; ((with_reducible refine (rgood_any A1 n1 c1 _ (by omega) w5 hb1).mono ?_); rintro e w6 ⟨rfl, hB6⟩); replace hB := below_then hB hB6))
  go_ret
  exact ⟨rfl, hB⟩

theorem wireOrder_walk (w : World) (A : Option Addr) (n c : Nat) (l : List UInt8) (hb : Bs w A n c l) (B : Option Addr) (m d : Nat) (k : List UInt8) (hk : Bs w B m d k) :
    Calls Try.prog 4 #[.slice A n c, .slice B m d] w fun e w' => e = .returned (.bool true) ∧ Below w.heap.size w w' := by
  go_enter Try.func4, Try.ntmps4
  go_wp2_with fail
  refine (few_any A n c l w hb).mono ?_
  rintro e w1 ⟨A1, n1, c1, lt, rfl, hb1, u1, rfl⟩
  go_wp2_with fail
  refine (few_any B m d k w hk).mono ?_
  rintro e w2 ⟨A2, n2, c2, kt, rfl, hb2, u2, rfl⟩
  by_cases p1 : (n1 : Int) % 2 = 0
  · by_cases p2 : (n2 : Int) % 2 = 0
    · have q1 : ((n1 : Int) % 2 != 0) = false := by simpa using p1
      have q2 : ((n2 : Int) % 2 != 0) = false := by simpa using p2
      have HC : Hid (csum (lt ++ kt) = csum (kt ++ lt)) := csum_order (by rw [hb1.len]; omega) (by rw [hb2.len]; omega)
      clear p1 p2
      go_wp2_with (first
        | (at_builtin; refine wpList_append_bs (w0 := w) _ rfl _ _ _ rfl w.heap.size 5 Try.underlying26 info_u8 (some ⟨w.heap.size, 0, none⟩) 0 0 [] rfl (own_lit w _ _ [] 0 rfl (by omega) (Nat.le_refl _)) A1 n1 c1 lt rfl (hb1.alloc _) ((Below.refl _ w).alloc (Nat.le_refl _) _) (by omega) (by first | exact Nat.le_refl _ | omega | (simp <;> omega)) ?_; intro A3 n3 c3 w3 ho3 hB3 _ hz3; have u3 : n3 ≤ 5000 := (by have := ho3.len; have := hb1.len; simp at *; omega); have k2 := hb2.below hB3)
        | (at_builtin; refine wpList_append_bs (w0 := w) _ rfl _ _ _ rfl w.heap.size 5 Try.underlying26 info_u8 A3 n3 c3 lt rfl ho3 A2 n2 c2 kt rfl k2 hB3 (by omega) (by first | exact Nat.le_refl _ | omega | (simp <;> omega)) ?_; intro A4 n4 c4 w4 ho4 hB4 _ hz4; have k1 := hb1.below hB4; replace k2 := hb2.below hB4)
        | (at_builtin; refine wpList_append_bs (w0 := w4) _ rfl _ _ _ rfl w4.heap.size 5 Try.underlying26 info_u8 (some ⟨w4.heap.size, 0, none⟩) 0 0 [] rfl (own_lit w4 _ _ [] 0 rfl (by omega) (Nat.le_refl _)) A2 n2 c2 kt rfl (k2.alloc _) ((Below.refl _ w4).alloc (Nat.le_refl _) _) (by omega) (by first | exact Nat.le_refl _ | omega | (simp <;> omega)) ?_; intro A5 n5 c5 w5 ho5 hB5 _ hz5; have u5 : n5 ≤ 5000 := (by have := ho5.len; have := hb2.len; simp at *; omega); replace k1 := k1.below hB5; have k4 := ho4.bs.below hB5)
        | (at_builtin; refine wpList_append_bs (w0 := w4) _ rfl _ _ _ rfl w4.heap.size 5 Try.underlying26 info_u8 A5 n5 c5 kt rfl ho5 A1 n1 c1 lt rfl k1 hB5 (by omega) (by first | exact Nat.le_refl _ | omega | (simp <;> omega)) ?_; intro A6 n6 c6 w6 ho6 hB6 _ hz6; replace k4 := ho4.bs.below hB6; have k6 := ho6.bs; have hT := below_then hB4 hB6)
        | (go_at_call 15; ((with_reducible refine (live1_any w6).mono ?_); rintro e w7 ⟨rfl, hB7⟩); replace hT := below_then hT hB7; replace k4 := k4.below hB7; replace k6 := k6.below hB7)
        | (go_at_call 17; ((with_reducible refine (sum_any A4 n4 c4 _ w7 k4).mono ?_); rintro e w8 ⟨rfl, hB8⟩); replace hT := below_then hT hB8; replace k6 := k6.below hB8)
        | (go_at_call 17; ((with_reducible refine (sum_any A6 n6 c6 _ w8 k6).mono ?_); rintro e w9 ⟨rfl, hB9⟩); replace hT := below_then hT hB9))
      go_ret
      exact ⟨ret_true (by rw [HC.out]; exact beq_self_eq_true _), hT⟩
    · have q1 : ((n1 : Int) % 2 != 0) = false := by simpa using p1
      have q2 : ((n2 : Int) % 2 != 0) = true := by simpa using p2
      go_wp2_with (go_at_call 15; ((with_reducible refine (live1_any w).mono ?_); rintro e w7 ⟨rfl, hB7⟩))
      go_ret
      exact ⟨rfl, hB7⟩
  · have q1 : ((n1 : Int) % 2 != 0) = true := by simpa using p1
    go_wp2_with (go_at_call 15; ((with_reducible refine (live1_any w).mono ?_); rintro e w7 ⟨rfl, hB7⟩))
    go_ret
    exact ⟨rfl, hB7⟩

theorem wireZeros_walk (w : World) (A : Option Addr) (n c : Nat) (l : List UInt8) (hb : Bs w A n c l) (z : Int) (z0 : 0 ≤ z) (z1 : z ≤ 255) :
    Calls Try.prog 5 #[.slice A n c, .int .u8 z] w fun e w' => e = .returned (.bool true) ∧ Below w.heap.size w w' := by
  obtain ⟨k, rfl⟩ := Int.eq_ofNat_of_zero_le z0
  have hmk : ∀ W, (Instr.makeSlice 26 (.int .i64 ((k : Int) * 2)) (.int .i64 ((k : Int) * 2))).run Try.prog W = .ok (.slice (some ⟨W.heap.size, 0, none⟩) (2 * k) (2 * k)) (W.alloc (.cells (cu (zs (2 * k))).toArray 5)) := by
    intro W
    have := run_make_zs (P := Try.prog) 26 5 Try.underlying26 info_u8 .i64 .i64 (2 * k) (by omega) W
    rw [show ((2 * k : Nat) : Int) = (k : Int) * 2 from by omega] at this
    exact this
  go_enter Try.func5, Try.ntmps5
  go_wp2_with fail
  refine (few_any A n c l w hb).mono ?_
  rintro e w1 ⟨A1, n1, c1, lt, rfl, hb1, u1, rfl⟩
  have hoz := own_zs w w.heap.size 5 (2 * k) (by omega) (Nat.le_refl _)
  have hz0 := below_alloc (Below.refl w.heap.size w) (Nat.le_refl _) (.cells (cu (zs (2 * k))).toArray 5)
  obtain ⟨wz, hwz⟩ : ∃ wz, w.alloc (.cells (cu (zs (2 * k))).toArray 5) = wz := ⟨_, rfl⟩
  have q1 : (csum (lt ++ zs (2 * k)) == csum lt) = true := by rw [csum_behind]; exact beq_self_eq_true _
  have q2 : (csum (zs (2 * k) ++ lt) == csum lt) = true := by rw [csum_ahead]; exact beq_self_eq_true _
  rw [hwz] at hoz hz0
  have b1 := hb1.below hz0
  have hk1 : 2 * k ≤ 510 := by omega
  have hzz : w.heap.size < wz.heap.size := by rw [← hwz]; simp
  go_wp2_with (first
    | (at_builtin; refine wpList_append_bs (w0 := wz) _ rfl _ _ _ rfl wz.heap.size 5 Try.underlying26 info_u8 (some ⟨wz.heap.size, 0, none⟩) 0 0 [] rfl (own_lit wz _ _ [] 0 rfl (by omega) (Nat.le_refl _)) A1 n1 c1 lt rfl (b1.alloc _) ((Below.refl _ wz).alloc (Nat.le_refl _) _) (by omega) (by first | exact Nat.le_refl _ | omega | (simp <;> omega)) ?_; intro A3 n3 c3 w3 ho3 hB3 _ hz3; have u3 : n3 ≤ 5000 := (by have := ho3.len; have := hb1.len; simp at *; omega); have k3 := hoz.bs.below hB3)
    | (at_builtin; refine wpList_append_bs (w0 := wz) _ rfl _ _ _ rfl wz.heap.size 5 Try.underlying26 info_u8 A3 n3 c3 lt rfl ho3 (some ⟨w.heap.size, 0, none⟩) (2 * k) (2 * k) (zs (2 * k)) rfl k3 hB3 (by omega) (by first | exact Nat.le_refl _ | omega | (simp <;> omega)) ?_; intro A4 n4 c4 w4 ho4 hB4 _ hz4; have k4 := hoz.below hB4; have b4 := b1.below hB4; have hT := below_then hz0 hB4)
    | (at_builtin; refine wpList_append_bs (w0 := w) _ rfl _ _ _ rfl w.heap.size 5 Try.underlying26 info_u8 (some ⟨w.heap.size, 0, none⟩) (2 * k) (2 * k) (zs (2 * k)) rfl k4 A1 n1 c1 lt rfl b4 hT (by omega) (by first | exact Nat.le_refl _ | omega | (simp <;> omega)) ?_; intro A5 n5 c5 w5 ho5 hB5 hg5 hz5; have k5 := (ho4.far hg5 (by intro j hj; simp only [Value.ownBlock, Option.some.injEq] at hj; omega)).bs; have b5 := hb1.below hB5; have a5 := ho5.bs)
    | (go_at_call 15; ((with_reducible refine (live1_any w5).mono ?_); rintro e w7 ⟨rfl, hB7⟩); replace hB5 := below_then hB5 hB7; replace k5 := k5.below hB7; replace b5 := b5.below hB7; replace a5 := a5.below hB7)
    | (go_at_call 17; ((with_reducible refine (sum_any A4 n4 c4 _ w7 k5).mono ?_); rintro e w8 ⟨rfl, hB8⟩); replace hB5 := below_then hB5 hB8; replace b5 := b5.below hB8; replace a5 := a5.below hB8)
    | (go_at_call 17; ((with_reducible refine (sum_any A1 n1 c1 _ w8 b5).mono ?_); rintro e w9 ⟨rfl, hB9⟩); replace hB5 := below_then hB5 hB9; replace b5 := b5.below hB9; replace a5 := a5.below hB9)
    | (go_at_call 17; ((with_reducible refine (sum_any A5 n5 c5 _ w9 a5).mono ?_); rintro e w10 ⟨rfl, hB10⟩); replace hB5 := below_then hB5 hB10; replace b5 := b5.below hB10)
    | (go_at_call 17; ((with_reducible refine (sum_any A1 n1 c1 _ w10 b5).mono ?_); rintro e w11 ⟨rfl, hB11⟩); replace hB5 := below_then hB5 hB11))
  go_ret
  exact ⟨rfl, hB5⟩

theorem wireGood_walk (w : World) (A : Option Addr) (n c : Nat) (l : List UInt8) (hb : Bs w A n c l) (a : Int) (a0 : 0 ≤ a) (a1 : a ≤ 65535) :
    Calls Try.prog 8 #[.slice A n c, .int .u16 a] w fun e w' => e = .returned (.bool true) ∧ Below w.heap.size w w' := by
  go_enter Try.func8, Try.ntmps8
  go_wp2_with fail
  refine (few_any A n c l w hb).mono ?_
  rintro e w1 ⟨A1, n1, c1, lt, rfl, hb1, u1, rfl⟩
  by_cases p1 : (n1 : Int) % 2 = 0
  · have q1 : ((n1 : Int) % 2 != 0) = false := by simpa using p1
    by_cases p2 : (n1 : Int) < 2
    · go_wp2_with (go_at_call 15; ((with_reducible refine (live1_any w).mono ?_); rintro e w7 ⟨rfl, hB7⟩))
      go_ret
      exact ⟨rfl, hB7⟩
    · have hn2 : 1 ≤ (n1 : Int) / 2 := by omega
      have m0 : 0 ≤ a % ((n1 : Int) / 2) := Int.emod_nonneg _ (by omega)
      have m1 : a % ((n1 : Int) / 2) < (n1 : Int) / 2 := Int.emod_lt_of_pos _ (by omega)
      obtain ⟨j, hj⟩ := Int.eq_ofNat_of_zero_le m0
      rw [hj] at m1
      have hk : a % ((n1 : Int) / 2) * 2 = ((2 * j : Nat) : Int) := by rw [hj]; omega
      have hjl : 2 * j + 2 ≤ lt.length := by rw [hb1.len]; omega
      have hg := good_put (z := put16 lt (2 * j : Nat) 0) (j := j) (by rw [put16_length]; exact hjl) (wd_put16_same (by omega) (by omega) hjl)
      have q3 : (csum (put16 (put16 lt (2 * j : Nat) 0) (2 * j : Nat) (csum (put16 lt (2 * j : Nat) 0))) == 0) = true := by rw [hg]; rfl
      have s0 := csum_lo (put16 lt (2 * j : Nat) 0)
      have s1 := csum_hi (put16 lt (2 * j : Nat) 0)
      obtain ⟨k, hkk⟩ : ∃ k : Int, ((2 * j : Nat) : Int) = k := ⟨_, rfl⟩
      rw [hkk] at hk q3 s0 s1
      have k0 : 0 ≤ k := by omega
      have kw : wrap64 k = k := by unfold wrap64; omega
      clear m0 m1 hj hjl hg hkk p1
      go_wp2_with (first
        | (go_at_call 23; ((with_reducible refine (put16_any A1 n1 c1 lt k 0 (by omega) (by omega) w hb1).mono ?_); rintro e w2 ⟨A2, c2, rfl, ho2, hB2⟩); have k2 := ho2.bs)
        | (go_at_call 15; ((with_reducible refine (live1_any w2).mono ?_); rintro e w3 ⟨rfl, hB3⟩); replace k2 := k2.below hB3; replace hB2 := below_then hB2 hB3)
        | (go_at_call 17; ((with_reducible refine (sum_any A2 n1 c2 _ w3 k2).mono ?_); rintro e w4 ⟨rfl, hB4⟩); replace k2 := k2.below hB4; replace hB2 := below_then hB2 hB4)
        | (go_at_call 23; ((with_reducible refine (put16_any A2 n1 c2 _ k _ s0 s1 w4 k2).mono ?_); rintro e w5 ⟨A5, c5, rfl, ho5, hB5⟩); replace hB2 := below_then hB2 hB5)
        | (go_at_call 19; ((with_reducible refine (good_any A5 n1 c5 _ w5 ho5.bs).mono ?_); rintro e w6 ⟨rfl, hB6⟩); replace hB2 := below_then hB2 hB6))
      go_ret
      exact ⟨rfl, hB2⟩
  · have q1 : ((n1 : Int) % 2 != 0) = true := by simpa using p1
    go_wp2_with (go_at_call 15; ((with_reducible refine (live1_any w).mono ?_); rintro e w7 ⟨rfl, hB7⟩))
    go_ret
    exact ⟨rfl, hB7⟩
end Go.Proofs.Ythbcnlflkanahaa

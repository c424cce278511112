import Derived.Test.YtkjhickjgncheaaIpF
namespace Go.Proofs.Ytkjhickjgncheaa
open Go.RowKit
set_option linter.unusedVariables false
set_option linter.unusedSimpArgs false
set_option maxHeartbeats 4000000
set_option maxRecDepth 100000

theorem and_u16_bit14 {x : Int} (h0 : 0 ≤ x) (h1 : x ≤ 65535) : bits .and .u16 x 16384 = x / 16384 % 2 * 16384 := by
  rw [u16_and _ _ h0 (by omega) (by omega) (by omega)]
  have e : (16384 : Int).toNat = 2 ^ 14 := rfl
  rw [e, and_pow]
  omega
theorem ipv4Fragments_walk (w : World) (p : Pkt) (hp : p.Ok) (A1 : Option Addr) (n1 c1 : Nat) (A2 : Option Addr) (n2 c2 : Nat) (k1 : Bs w A1 n1 c1 p.opt) (k2 : Bs w A2 n2 c2 p.dat) (x : Int) (x0 : 0 ≤ x) (x1 : x ≤ 65535) :
    Calls Try.prog 11 #[(.agg #[.int .u8 (p).tos, .int .u16 (p).id, .bool (p).keep, .int .u8 (p).ttl, .int .u8 (p).proto, .int .u32 (p).src, .int .u32 (p).dst, .slice A1 n1 c1, .slice A2 n2 c2]), .int .u16 x] w fun e w' => e = .returned (.bool true) ∧ Below w.heap.size w w' := by
  have cb := fun W k1 k2 => bd_any p hp A1 n1 c1 A2 n2 c2 W k1 k2
  obtain ⟨k, hk⟩ : ∃ k : Nat, w.heap.size = k := ⟨_, rfl⟩
  obtain ⟨w1, hw1⟩ : ∃ w1, w.alloc (.cells #[.int .u8 (p).tos, .int .u16 (p).id, .bool (p).keep, .int .u8 (p).ttl, .int .u8 (p).proto, .int .u32 (p).src, .int .u32 (p).dst, .slice A1 n1 c1, .slice A2 n2 c2] 26) = w1 := ⟨_, rfl⟩
  have P0 : Blk w1 k #[.int .u8 (p).tos, .int .u16 (p).id, .bool (p).keep, .int .u8 (p).ttl, .int .u8 (p).proto, .int .u32 (p).src, .int .u32 (p).dst, .slice A1 n1 c1, .slice A2 n2 c2] 26 := by rw [← hw1]; exact blk_new w _ _ k hk
  have R1 : Below w.heap.size w w1 := by rw [← hw1]; (repeat (first | with_reducible exact Below.refl _ _ | with_reducible refine below_drew ?_ | with_reducible refine below_drewN ?_ _ | with_reducible refine below_alloc ?_ (Nat.le_refl _) _ | with_reducible refine Below.setCell ?_ (by first | exact Nat.le_refl _ | (simp only []; omega)) _ | with_reducible assumption))
  have y1 := k1.below R1
  have y2 := k2.below R1
  have pc := P0.cell
  have l1 := k1.len
  have l2 := k2.len
  clear k1 k2
  by_cases h : bdE p = 0
  · have hfix := fix_told hp h x0 x1
    have hN := bdL_len h
    have hZ := bdE_zero h
    simp only [h] at cb
    obtain ⟨L, hL⟩ : ∃ L, bdL p = L := ⟨_, rfl⟩
    simp only [hL] at cb hfix hN
    rw [l1] at hfix
    obtain ⟨N, hNN⟩ : ∃ N, L.length = N := ⟨_, rfl⟩
    rw [hNN] at hN
    have n0 : 20 + n1 ≤ N := by omega
    have n9 : N ≤ 65535 := by omega
    obtain ⟨K, hK⟩ : ∃ K : Nat, 20 + n1 = 2 * K := ⟨(20 + n1) / 2, by omega⟩
    obtain ⟨h', hh⟩ : ∃ h' : Int, 20 + (n1 : Int) = h' := ⟨_, rfl⟩
    have hK2 : h' = 2 * (K : Int) := by omega
    rw [hK] at hfix
    obtain ⟨F, hF⟩ : ∃ F, fixL L x (2 * K) = F := ⟨_, rfl⟩
    rw [hF] at hfix
    obtain ⟨hf6, hfE⟩ := hfix
    have hff : ∀ W A c, Bs W A N c L → Calls Try.prog 25 #[.slice A N c, .int .u16 x, .int .i64 h'] W fun e w' => ∃ A' c', e = .returned (.slice A' N c') ∧ Own w' W.heap.size 5 A' N c' F ∧ Below W.heap.size W w' := fun W A c hb => by
      rw [← hF]; exact fixed_any A N c L K (by omega) (by omega) (by omega) x x0 x1 h' hK2 W hb
    have HNN := Lib.hid hNN
    have a1 := and_u16_low x0 x1
    have a2 := and_u16_top x0 x1
    have a3 := and_u16_bit14 x0 x1
    have h60 : h' ≤ 60 := by omega
    have hNi : h' ≤ N := by omega
    clear hNN hN hZ h hL l1 l2 hK hF hK2
    by_cases q1 : x % 16384 = 0
    · have q1' : (x % 16384 != 0) = false := by simpa using q1
      by_cases q2 : 32768 ≤ x
      · have q2' : x / 32768 * 32768 = 32768 := by omega
        rw [q2'] at a2
        rw [if_neg (by omega), if_pos q2] at hfE
        obtain ⟨Q, hQ⟩ : ∃ Q, rdPk false F = Q := ⟨_, rfl⟩
        have HP := Lib.hid hQ
        have HE := Lib.hid hfE
        clear hQ hfE q1 q2 q2' hf6
        go_enter Try.func11, Try.ntmps11
        go_wp2_with (first
          | (go_at_call 14; ((with_reducible refine (cb _ y1 y2).mono ?_); rintro e w3 ⟨A3, n3, c3, rfl, ho3, hB3⟩); have u3 : n3 = N := (by rw [← ho3.len]; exact HNN.out); subst u3; have z3 := ho3.bs; have p3 := (P0.below hB3).cell)
          | (go_at_call 25; ((with_reducible refine (hff _ A3 c3 z3).mono ?_); rintro e w4 ⟨A4, c4, rfl, ho4, hB4⟩); have T4 := below_then hB3 hB4)
          | (go_at_call 21; ((with_reducible refine (ipParse_v HP.out HE.out A4 n3 c4 _ ho4.bs).mono ?_); rintro e w5 ⟨C1, e1, f1, C2, e2, f2, rfl, i1, i2, T5⟩); have U5 := below_then T4 T5)
          | (go_at_call 16; ((with_reducible refine (live02_any _).mono ?_); rintro e w6 ⟨rfl, hB6⟩)))
        go_ret
        exact ⟨rfl, below_then (below_then R1 (below_alloc U5 (Nat.le_refl _) _)) hB6⟩
      · have q2' : x / 32768 * 32768 = 0 := by omega
        rw [q2'] at a2
        rw [if_neg (by omega), if_neg q2] at hfE
        obtain ⟨Q, hQ⟩ : ∃ Q, rdPk false F = Q := ⟨_, rfl⟩
        have hkeep : Q.keep = (x != 0) := by
          rw [← hQ]; unfold rdPk; rw [if_pos hfE]
          show (get16 F 6 != 0) = _
          rw [hf6]
        have q3 : (x / 16384 % 2 * 16384 != 0) = (x != 0) := by
          rw [Bool.eq_iff_iff]; simp; omega
        rw [← q3] at hkeep
        have HP := Lib.hid hQ
        have HE := Lib.hid hfE
        clear hQ hfE q1 q2 q2' hf6 q3
        go_enter Try.func11, Try.ntmps11
        go_wp2_with (first
          | (go_at_call 14; ((with_reducible refine (cb _ y1 y2).mono ?_); rintro e w3 ⟨A3, n3, c3, rfl, ho3, hB3⟩); have u3 : n3 = N := (by rw [← ho3.len]; exact HNN.out); subst u3; have z3 := ho3.bs; have p3 := (P0.below hB3).cell)
          | (go_at_call 25; ((with_reducible refine (hff _ A3 c3 z3).mono ?_); rintro e w4 ⟨A4, c4, rfl, ho4, hB4⟩); have T4 := below_then hB3 hB4)
          | (go_at_call 21; ((with_reducible refine (ipParse_v HP.out HE.out A4 n3 c4 _ ho4.bs).mono ?_); rintro e w5 ⟨C1, e1, f1, C2, e2, f2, rfl, i1, i2, T5⟩); have U5 := below_then T4 T5)
          | (go_at_call 16; ((with_reducible refine (live02_any _).mono ?_); rintro e w6 ⟨rfl, hB6⟩); have q6 := ((blk_new w5 _ _ _ rfl).below hB6).cell))
        go_ret
        exact ⟨rfl, below_then (below_then R1 (below_alloc U5 (Nat.le_refl _) _)) hB6⟩
    · have q1' : (x % 16384 != 0) = true := by simpa using q1
      rw [if_pos q1] at hfE
      obtain ⟨Q, hQ⟩ : ∃ Q, rdPk false F = Q := ⟨_, rfl⟩
      have HP := Lib.hid hQ
      have HE := Lib.hid hfE
      clear hQ hfE q1 hf6 a2 a3
      go_enter Try.func11, Try.ntmps11
      go_wp2_with (first
        | (go_at_call 14; ((with_reducible refine (cb _ y1 y2).mono ?_); rintro e w3 ⟨A3, n3, c3, rfl, ho3, hB3⟩); have u3 : n3 = N := (by rw [← ho3.len]; exact HNN.out); subst u3; have z3 := ho3.bs; have p3 := (P0.below hB3).cell)
        | (go_at_call 25; ((with_reducible refine (hff _ A3 c3 z3).mono ?_); rintro e w4 ⟨A4, c4, rfl, ho4, hB4⟩); have T4 := below_then hB3 hB4)
        | (go_at_call 21; ((with_reducible refine (ipParse_v HP.out HE.out A4 n3 c4 _ ho4.bs).mono ?_); rintro e w5 ⟨C1, e1, f1, C2, e2, f2, rfl, i1, i2, T5⟩); have U5 := below_then T4 T5)
        | (go_at_call 16; ((with_reducible refine (live02_any _).mono ?_); rintro e w6 ⟨rfl, hB6⟩)))
      go_ret
      exact ⟨rfl, below_then (below_then R1 (below_alloc U5 (Nat.le_refl _) _)) hB6⟩
  · have he : (bdE p != 0) = true := by simpa using h
    obtain ⟨E, hE⟩ : ∃ E, bdE p = E := ⟨_, rfl⟩
    simp only [hE] at cb he
    clear h hE
    go_enter Try.func11, Try.ntmps11
    go_wp2_with (first
      | (go_at_call 14; ((with_reducible refine (cb _ y1 y2).mono ?_); rintro e w3 ⟨A3, n3, c3, rfl, ho3, hB3⟩))
      | (go_at_call 16; ((with_reducible refine (live02_any _).mono ?_); rintro e w4 ⟨rfl, hB4⟩)))
    go_ret
    exact ⟨rfl, below_then (below_then R1 hB3) hB4⟩
end Go.Proofs.Ytkjhickjgncheaa

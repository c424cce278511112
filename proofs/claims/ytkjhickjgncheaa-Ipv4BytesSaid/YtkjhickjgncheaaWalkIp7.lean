import Derived.Test.YtkjhickjgncheaaIpV
import Derived.Test.YtkjhickjgncheaaIpS2
import Derived.BigQuiet
namespace Go.Proofs.Ytkjhickjgncheaa
open Go.RowKit
set_option linter.unusedVariables false
set_option linter.unusedSimpArgs false
set_option maxHeartbeats 4000000
set_option maxRecDepth 100000

theorem ipv4Bytes_walk (w : World) (A : Option Addr) (n c : Nat) (l : List UInt8) (hb : Bs w A n c l) :
    Calls Try.prog 8 #[.slice A n c] w fun e w' => e = .returned (.bool true) ∧ Below w.heap.size w w' := by
  have hmax := hb.max
  have hlen := hb.len
  by_cases h : rdE false l = 0
  · obtain ⟨hE0, hle, hbt⟩ := bytes_back h
    have hP : rdPk false l = rdP l := by unfold rdPk; rw [if_pos h]
    have hok := rdP_ok l
    obtain ⟨P, hPP⟩ : ∃ P, rdP l = P := ⟨_, rfl⟩
    rw [hPP] at hE0 hle hbt hP hok
    have cb := fun A1 n1 c1 A2 n2 c2 W k1 k2 => bd_any P hok A1 n1 c1 A2 n2 c2 W k1 k2
    obtain ⟨L, hL⟩ : ∃ L, bdL P = L := ⟨_, rfl⟩
    simp only [hE0, hL] at cb
    rw [hL] at hle hbt
    rw [hlen] at hle
    have HP := Lib.hid hP
    have HE := Lib.hid h
    have HB := Lib.hid hbt
    have HLE := Lib.hid hle
    clear hP h hbt hle hL hPP hE0 hok hlen
    go_enter Try.func8, Try.ntmps8
    go_wp2_with (first
      | (go_at_call 21; ((with_reducible refine (ipParse_v HP.out HE.out A n c _ hb).mono ?_); rintro e w1 ⟨A1, n1, c1, A2, n2, c2, rfl, i1, i2, T1⟩); have V1 := below_alloc T1 (Nat.le_refl _) (.cells #[.int .u8 (P).tos, .int .u16 (P).id, .bool (P).keep, .int .u8 (P).ttl, .int .u8 (P).proto, .int .u32 (P).src, .int .u32 (P).dst, .slice A1 n1 c1, .slice A2 n2 c2] 26))
      | (go_at_call 14; ((with_reducible refine (cb A1 n1 c1 A2 n2 c2 _ (i1.alloc _) (i2.alloc _)).mono ?_); rintro e w3 ⟨A3, n3, c3, rfl, ho3, hB3⟩); have z3 := ho3.bs; have V3 := below_then V1 hB3; have b3 := hb.below V3; have u3 : n3 ≤ n := (by rw [← ho3.len]; exact HLE.out)))
    go_loopw [7] (fun i wr => ∃ j : Nat, j ≤ n3 ∧ i = .int .i64 j ∧ Bs wr A n c l ∧ Bs wr A3 n3 c3 L ∧ Below w.heap.size w wr) (fun i _ => n3 - (intOf i).toNat)
    case atStart => exact ⟨0, by omega, rfl, b3, z3, V3⟩
    case round =>
      obtain ⟨j, hj, rfl, b6, x6, hB6⟩ := hrel
      by_cases hlt : j < n3
      · obtain ⟨g, o, rfl, hc⟩ := b6.rd (by omega)
        obtain ⟨g', o', rfl, hc'⟩ := x6.rd (by omega)
        have i0 : (0 : Int) ≤ j := by omega
        have i1' : (j : Int) < n3 := by omega
        have i2' : (j : Int) < n := by omega
        have cb' := hc j (by omega)
        have cx := hc' j hlt
        clear hc hc'
        have hLl := x6.len
        by_cases q1 : j = 10 ∨ j = 11
        · have q2 : (j : Int) = 10 ∨ (j : Int) = 11 := by omega
          by_cases q3 : bt L j = bt l j
          · have q4 : (bt L j != bt l j) = false := by simp [q3]
            go_wp2_with (go_quiet (fail))
            exact ⟨⟨j + 1, by omega, by go_num, b6.drewN nq, x6.drewN nq, below_drewN hB6 nq⟩, by simp [intOf]; omega⟩
          · have q4 : (bt L j != bt l j) = true := by simpa using q3
            rcases q2 with q2 | q2
            · have q5 : ((j : Int) != 10) = false := by simp [q2]
              clear q2
              go_wp2_with (go_quiet (fail))
              exact ⟨⟨j + 1, by omega, by go_num, b6.drewN nq, x6.drewN nq, below_drewN hB6 nq⟩, by simp [intOf]; omega⟩
            · have q5 : ((j : Int) != 11) = false := by simp [q2]
              have q6 : ((j : Int) != 10) = true := by simp [q2]
              clear q2
              go_wp2_with (go_quiet (fail))
              exact ⟨⟨j + 1, by omega, by go_num, b6.drewN nq, x6.drewN nq, below_drewN hB6 nq⟩, by simp [intOf]; omega⟩
        · rw [HB.out j (by omega) (by omega) (by omega)] at cx
          go_wp2_with (go_quiet (fail))
          exact ⟨⟨j + 1, by omega, by go_num, b6.drewN nq, x6.drewN nq, below_drewN hB6 nq⟩, by simp [intOf]; omega⟩
      · obtain rfl : j = n3 := by omega
        go_wp2_with (go_at_call 16; ((with_reducible refine (live02_any _).mono ?_); rintro e w4 ⟨rfl, hB4⟩))
        go_ret
        exact ⟨rfl, below_then hB6 hB4⟩
  · have hP := rdPk_bad h
    have he : (rdE false l != 0) = true := by simpa using h
    obtain ⟨E, hE⟩ : ∃ E, rdE false l = E := ⟨_, rfl⟩
    rw [hE] at he
    have hs := sameP_self zP
    have HP := Lib.hid hP
    have HE := Lib.hid hE
    clear h hE hP
    go_enter Try.func8, Try.ntmps8
    go_wp2_with (first
      | (go_at_call 21; ((with_reducible refine (ipParse_v HP.out HE.out A n c _ hb).mono ?_); rintro e w1 ⟨A1, n1, c1, A2, n2, c2, rfl, i1, i2, T1⟩))
      | (go_at_call 16; ((with_reducible refine (live02_any _).mono ?_); rintro e w4 ⟨rfl, hB4⟩); have q4 := ((blk_new w1 _ _ _ rfl).below hB4).cell; have U4 := below_then (below_alloc T1 (Nat.le_refl _) _) hB4)
      | (go_at_call 20; ((with_reducible refine (rsame_zero zP A1 n1 c1 A2 n2 c2 _ ((i1.alloc _).below hB4) ((i2.alloc _).below hB4)).mono ?_); rintro e w6 ⟨rfl, hB6⟩)))
    go_ret
    exact ⟨rfl, below_then U4 hB6⟩
end Go.Proofs.Ytkjhickjgncheaa

import Derived.Test.YtkjhickjgncheaaIpV
import Derived.Test.YtkjhickjgncheaaIpS2
namespace Go.Proofs.Ytkjhickjgncheaa
open Go.RowKit
set_option linter.unusedVariables false
set_option linter.unusedSimpArgs false
set_option maxHeartbeats 4000000
set_option maxRecDepth 100000

theorem ipv4Cuts_walk (w : World) (p : Pkt) (hp : p.Ok) (A1 : Option Addr) (n1 c1 : Nat) (A2 : Option Addr) (n2 c2 : Nat) (k1 : Bs w A1 n1 c1 p.opt) (k2 : Bs w A2 n2 c2 p.dat) (x : Int) (x0 : 0 ≤ x) (x1 : x ≤ 65535) :
    Calls Try.prog 9 #[(.agg #[.int .u8 (p).tos, .int .u16 (p).id, .bool (p).keep, .int .u8 (p).ttl, .int .u8 (p).proto, .int .u32 (p).src, .int .u32 (p).dst, .slice A1 n1 c1, .slice A2 n2 c2]), .int .u16 x] w fun e w' => e = .returned (.bool true) ∧ Below w.heap.size w w' := by
  have cb := fun W k1 k2 => bd_any p hp A1 n1 c1 A2 n2 c2 W k1 k2
  obtain ⟨k, hk⟩ : ∃ k : Nat, w.heap.size = k := ⟨_, rfl⟩
  obtain ⟨w1, hw1⟩ : ∃ w1, w.alloc (.cells #[.int .u8 (p).tos, .int .u16 (p).id, .bool (p).keep, .int .u8 (p).ttl, .int .u8 (p).proto, .int .u32 (p).src, .int .u32 (p).dst, .slice A1 n1 c1, .slice A2 n2 c2] 26) = w1 := ⟨_, rfl⟩
  have P0 : Blk w1 k #[.int .u8 (p).tos, .int .u16 (p).id, .bool (p).keep, .int .u8 (p).ttl, .int .u8 (p).proto, .int .u32 (p).src, .int .u32 (p).dst, .slice A1 n1 c1, .slice A2 n2 c2] 26 := by rw [← hw1]; exact blk_new w _ _ k hk
  have R1 : Below w.heap.size w w1 := by rw [← hw1]; (repeat (first | with_reducible exact Below.refl _ _ | with_reducible refine below_drew ?_ | with_reducible refine below_drewN ?_ _ | with_reducible refine below_alloc ?_ (Nat.le_refl _) _ | with_reducible refine Below.setCell ?_ (by first | exact Nat.le_refl _ | (simp only []; omega)) _ | with_reducible assumption))
  have y1 := k1.below R1
  have y2 := k2.below R1
  have pc := P0.cell
  have l1 := k1.len
  have l2 := k2.len
  clear k1 k2
  by_cases h : bdE p = 0
  · have hct : ∀ k, k < (bdL p).length → rdE false ((bdL p).take k) = 3 := fun k hk => cut_told hp h hk
    have hN := bdL_len h
    have hZ := bdE_zero h
    simp only [h] at cb
    obtain ⟨L, hL⟩ : ∃ L, bdL p = L := ⟨_, rfl⟩
    simp only [hL] at cb hct hN
    have hs := sameP_self zP
    obtain ⟨N, hNN⟩ : ∃ N, L.length = N := ⟨_, rfl⟩
    rw [hNN] at hct hN
    have n0 : 20 + n1 ≤ N := by omega
    have n9 : N ≤ 65535 := by omega
    obtain ⟨i8, hi8, -, hs8, -⟩ := info_parts info_u8
    have m0 : 0 ≤ x % (N : Int) := Int.emod_nonneg _ (by omega)
    have m1 : x % (N : Int) < N := Int.emod_lt_of_pos _ (by omega)
    have hz : ((N : Int) == 0) = false := by simp; omega
    obtain ⟨j, hj⟩ : ∃ j : Nat, x % (N : Int) = j := ⟨(x % (N : Int)).toNat, by omega⟩
    rw [hj] at m0 m1
    have hE := hct j (by omega)
    have HP := Lib.hid (rdPk_bad (q := false) (l := L.take j) (by rw [hE]; decide))
    have HE := Lib.hid hE
    have HNN := Lib.hid hNN
    have HHN := Lib.hid hN
    clear hct hE hNN hN hZ h hL l1 l2
    go_enter Try.func9, Try.ntmps9
    go_wp2_with (first
      | (go_at_call 14; ((with_reducible refine (cb _ y1 y2).mono ?_); rintro e w3 ⟨A3, n3, c3, rfl, ho3, hB3⟩); have u3 : n3 = N := (by rw [← ho3.len]; exact HNN.out); subst u3; have z3 := ho3.bs; have hcap := z3.cap; have p3 := (P0.below hB3).cell; (obtain ⟨b, off, rfl⟩ := z3.some_ (by omega)); have z4 := z3.takeN (k := j) (by omega); have hcut : ∀ W, (Instr.slice 24 (.slice (some ⟨b, off, none⟩) n3 c3) none (some (.int .i64 (j : Int))) none).run Try.prog W = .ok (.slice (some ⟨b, off, none⟩) j c3) W := (fun W => by rw [cut_h Try.underlying24 hi8 hs8 (some ⟨b, off, none⟩) n3 c3 .i64 (j : Int) (by omega) (by omega) W]; simp [Addr.add]))
      | (go_at_call 21; ((with_reducible refine (ipParse_v HP.out HE.out (some ⟨b, off, none⟩) j c3 _ z4).mono ?_); rintro e w4 ⟨C1, e1, f1, C2, e2, f2, rfl, i1, i2, T4⟩); have U4 := below_then hB3 T4)
      | (go_at_call 16; ((with_reducible refine (live02_any _).mono ?_); rintro e w5 ⟨rfl, hB5⟩); have q5 := ((blk_new w4 _ _ _ rfl).below hB5).cell; have U5 := below_then (below_alloc U4 (Nat.le_refl _) _) hB5)
      | (go_at_call 20; ((with_reducible refine (rsame_zero zP C1 e1 f1 C2 e2 f2 _ ((i1.alloc _).below hB5) ((i2.alloc _).below hB5)).mono ?_); rintro e w6 ⟨rfl, hB6⟩)))
    go_ret
    exact ⟨rfl, below_then (below_then R1 U5) hB6⟩
  · have he : (bdE p != 0) = true := by simpa using h
    obtain ⟨E, hE⟩ : ∃ E, bdE p = E := ⟨_, rfl⟩
    simp only [hE] at cb he
    clear h hE
    go_enter Try.func9, Try.ntmps9
    go_wp2_with (first
      | (go_at_call 14; ((with_reducible refine (cb _ y1 y2).mono ?_); rintro e w3 ⟨A3, n3, c3, rfl, ho3, hB3⟩))
      | (go_at_call 16; ((with_reducible refine (live02_any _).mono ?_); rintro e w4 ⟨rfl, hB4⟩)))
    go_ret
    exact ⟨rfl, below_then (below_then R1 hB3) hB4⟩
end Go.Proofs.Ytkjhickjgncheaa

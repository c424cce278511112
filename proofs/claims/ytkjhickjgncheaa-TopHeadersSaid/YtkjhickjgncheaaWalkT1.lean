import Derived.Test.YtkjhickjgncheaaIpV
import Derived.Test.YtkjhickjgncheaaIpS2
namespace Go.Proofs.Ytkjhickjgncheaa
open Go.RowKit
set_option linter.unusedVariables false
set_option linter.unusedSimpArgs false
set_option linter.unusedSimpArgs false
set_option maxHeartbeats 4000000
set_option maxRecDepth 100000

theorem topHeaders_walk (w : World) (p : Pkt) (hp : p.Ok) (A1 : Option Addr) (n1 c1 : Nat) (A2 : Option Addr) (n2 c2 : Nat) (k1 : Bs w A1 n1 c1 p.opt) (k2 : Bs w A2 n2 c2 p.dat) :
    Calls Try.prog 12 #[(.agg #[.int .u8 (p).tos, .int .u16 (p).id, .bool (p).keep, .int .u8 (p).ttl, .int .u8 (p).proto, .int .u32 (p).src, .int .u32 (p).dst, .slice A1 n1 c1, .slice A2 n2 c2])] w fun e w' => e = .returned (.bool true) ∧ Below w.heap.size w w' := by
  have cb := fun W k1 k2 => bd_any p hp A1 n1 c1 A2 n2 c2 W k1 k2
  obtain ⟨k, hk⟩ : ∃ k : Nat, w.heap.size = k := ⟨_, rfl⟩
  obtain ⟨w1, hw1⟩ : ∃ w1, w.alloc (.cells #[.int .u8 (p).tos, .int .u16 (p).id, .bool (p).keep, .int .u8 (p).ttl, .int .u8 (p).proto, .int .u32 (p).src, .int .u32 (p).dst, .slice A1 n1 c1, .slice A2 n2 c2] 26) = w1 := ⟨_, rfl⟩
  have P0 : Blk w1 k #[.int .u8 (p).tos, .int .u16 (p).id, .bool (p).keep, .int .u8 (p).ttl, .int .u8 (p).proto, .int .u32 (p).src, .int .u32 (p).dst, .slice A1 n1 c1, .slice A2 n2 c2] 26 := by rw [← hw1]; exact blk_new w _ _ k hk
  have R1 : Below w.heap.size w w1 := by rw [← hw1]; (repeat (first | with_reducible exact Below.refl _ _ | with_reducible refine below_drew ?_ | with_reducible refine below_drewN ?_ _ | with_reducible refine below_alloc ?_ (Nat.le_refl _) _ | with_reducible refine Below.setCell ?_ (by first | exact Nat.le_refl _ | (simp only []; omega)) _ | with_reducible assumption))
  have y1 := k1.below R1
  have y2 := k2.below R1
  have pc := P0.cell
  have l1 := k1.len
  have l2 := k2.len
  clear k1 k2
  by_cases h : bdE p = 0
  · have hN := bdL_len h
    have hZ := bdE_zero h
    have hxx := hx_at hp (csum_lo (hdL p)) (csum_hi (hdL p)) (p.opt ++ p.dat) hZ.1 hZ.2.2
    have hg := good_hd p
    have e1 : (bdL p).take (20 + n1) = hx p (csum (hdL p)) ++ p.opt := by rw [bdL_form h, ← List.append_assoc, ← l1]; exact List.take_left' (by rw [List.length_append, hx_len])
    have e2 : (bdL p).drop (20 + n1) = p.dat := by rw [bdL_form h, ← List.append_assoc, ← l1]; exact List.drop_left' (by rw [List.length_append, hx_len])
    rw [← e1] at hg
    rw [← bdL_form h] at hxx
    obtain ⟨-, -, f2, -, -, -, -, -, f12, f16⟩ := hxx
    rw [l1, l2] at f2
    simp only [h] at cb
    obtain ⟨L, hL⟩ : ∃ L, bdL p = L := ⟨_, rfl⟩
    simp only [hL] at cb hN hg e2 f2 f12 f16
    obtain ⟨N, hNN⟩ : ∃ N, L.length = N := ⟨_, rfl⟩
    rw [hNN] at hN
    have hN' : N = 20 + n1 + n2 := by omega
    have n9 : N ≤ 65535 := by omega
    obtain ⟨h', hh⟩ : ∃ h' : Int, 20 + (n1 : Int) = h' := ⟨_, rfl⟩
    have f2' : get16 L 2 = (N : Int) := by omega
    obtain ⟨i8, hi8, -, hs8, -⟩ := info_parts info_u8
    have h0 : 0 ≤ h' := by omega
    have h60 : h' ≤ 60 := by omega
    have hNi : h' ≤ N := by omega
    have hto : h'.toNat = 20 + n1 := by omega
    rw [← hto] at hg e2
    have HG := Lib.hid hg
    have E2 := Lib.hid e2
    have F2 := Lib.hid f2'
    have F12 := Lib.hid f12
    have F16 := Lib.hid f16
    have HNN := Lib.hid hNN
    clear hg e1 e2 f2 f2' f12 f16 hNN hN hN' hZ h hL l1 l2 hto
    go_enter Try.func12, Try.ntmps12
    go_wp2_with (first
      | (go_at_call 14; ((with_reducible refine (cb _ y1 y2).mono ?_); rintro e w3 ⟨A3, n3, c3, rfl, ho3, hB3⟩); have u3 : n3 = N := (by rw [← ho3.len]; exact HNN.out); subst u3; have z3 := ho3.bs; have hcap := z3.cap; have p3 := (P0.below hB3).cell))
    obtain ⟨b, off, rfl⟩ := z3.some_ (by omega)
    have hcut : ∀ W, (Instr.slice 24 (.slice (some ⟨b, off, none⟩) n3 c3) none (some (.int .i64 h')) none).run Try.prog W = .ok (.slice (some ⟨b, off, none⟩) h'.toNat c3) W := fun W => by
      rw [cut_h Try.underlying24 hi8 hs8 (some ⟨b, off, none⟩) n3 c3 .i64 h' (by omega) (by omega) W]; simp [Addr.add]
    have hcut2 : ∀ W, (Instr.slice 24 (.slice (some ⟨b, off, none⟩) n3 c3) (some (.int .i64 h')) none none).run Try.prog W = _ := fun W => cut_l Try.underlying24 hi8 hs8 (some ⟨b, off, none⟩) n3 c3 .i64 h' (by omega) (by omega) W
    obtain ⟨A', n', c', eA, en, ec, hbD⟩ := z3.cutE (lo := h'.toNat) (hi := n3) (by omega) (Nat.le_refl _)
    simp only [eA, en, ec] at hcut2
    have hlL : L.take n3 = L := List.take_of_length_le (by rw [HNN.out]; exact Nat.le_refl _)
    rw [hlL, E2.out] at hbD
    have hbG := z3.takeN (k := h'.toNat) (by omega)
    have P3 := P0.below hB3
    have hw3 : IntKind.i64.wrap (n3 : Int) = n3 := by simp [IntKind.wrap, IntKind.signed, IntKind.bits]; omega
    have y3 := y2.below hB3
    clear eA en ec hlL p3 pc P0 y1 y2 cb hw1
    refine region_txt 43 (by kernel_rfl) (by kernel_rfl) ?_; (iterate 43 (first | (apply ObsK.skip (by rfl)) | (apply ObsK.v (by rfl); (intro wo hT; (repeat (first | (intro _ _ k; try have hcv := cv k))); (have g0 := (P3.below hT).cell; have zz := z3.below hT; have zg := hbG.below hT; have za := cv (hbD.below hT); have zb := cv (y3.below hT)); refine Goes.mk ?_; go_simp; first | exact goes_v | exact goes_b (by assumption) | (refine goes_enter ?_; first | (go_at_call 26; ((with_reducible refine (good_any _ _ c3 _ wo zg).mono ?_); rintro e w8 ⟨rfl, hB8⟩); rw [HG.out]; exact ret_v hB8) | (go_at_call 27; ((with_reducible refine (get16_any _ n3 c3 L 2 wo zz).mono ?_); rintro e w8 ⟨rfl, hD8⟩); rw [F2.out]; exact ret_v hD8.bel) | (go_at_call 28; ((with_reducible refine (get32_any _ n3 c3 L 12 wo zz).mono ?_); rintro e w8 ⟨rfl, hD8⟩); rw [F12.out]; exact ret_v hD8.bel) | (go_at_call 28; ((with_reducible refine (get32_any _ n3 c3 L 16 wo zz).mono ?_); rintro e w8 ⟨rfl, hD8⟩); rw [F16.out]; exact ret_v hD8.bel)))) | (apply ObsK.b (by rfl); (intro wo hT; (repeat (first | (intro _ _ k; try have hcv := cv k))); (have g0 := (P3.below hT).cell; have zz := z3.below hT; have zg := hbG.below hT; have za := cv (hbD.below hT); have zb := cv (y3.below hT)); refine Goes.mk ?_; go_simp; first | exact goes_v | exact goes_b (by assumption) | (refine goes_enter ?_; first | (go_at_call 26; ((with_reducible refine (good_any _ _ c3 _ wo zg).mono ?_); rintro e w8 ⟨rfl, hB8⟩); rw [HG.out]; exact ret_v hB8) | (go_at_call 27; ((with_reducible refine (get16_any _ n3 c3 L 2 wo zz).mono ?_); rintro e w8 ⟨rfl, hD8⟩); rw [F2.out]; exact ret_v hD8.bel) | (go_at_call 28; ((with_reducible refine (get32_any _ n3 c3 L 12 wo zz).mono ?_); rintro e w8 ⟨rfl, hD8⟩); rw [F12.out]; exact ret_v hD8.bel) | (go_at_call 28; ((with_reducible refine (get32_any _ n3 c3 L 16 wo zz).mono ?_); rintro e w8 ⟨rfl, hD8⟩); rw [F16.out]; exact ret_v hD8.bel)))))); refine ObsK.nil ?_; intro wz hBz; simp only [finOn, List.drop_succ_cons, List.drop_zero, List.drop_nil]
    intros; go_simp
    go_wp2_with fail
    go_ret
    exact ⟨rfl, below_then (below_then R1 hB3) hBz⟩
  · have hr : rightP p = false := by
      cases hr : rightP p with
      | false => rfl
      | true => exact absurd ((bdE_zero_iff p).2 hr) h
    have he : (bdE p != 0) = true := by simpa using h
    obtain ⟨E, hE⟩ : ∃ E, bdE p = E := ⟨_, rfl⟩
    simp only [hE] at cb he
    have c0 : ∀ W, Calls Try.prog 14 #[.agg #[.int .u8 0, .int .u16 0, .bool false, .int .u8 0, .int .u8 0, .int .u32 0, .int .u32 0, .slice none 0 0, .slice none 0 0]] W fun e w' => ∃ A n c, e = .returned (.tuple #[.slice A n c, .int .i64 0]) ∧ Own w' W.heap.size 5 A n c (bdL zP) ∧ Below W.heap.size W w' :=
      fun W => bd_any zP zP_ok none 0 0 none 0 0 W (Bs.none_ _) (Bs.none_ _)
    have HL : Hid ((bdL zP).length = 20) := bdL_len (p := zP) rfl
    clear h hE
    go_enter Try.func12, Try.ntmps12
    go_wp2_with (first
      | (go_at_call 14; ((with_reducible refine (cb _ y1 y2).mono ?_); rintro e w3 ⟨A3, n3, c3, rfl, ho3, hB3⟩); have p3 := (P0.below hB3).cell)
      | (go_at_call 14; ((with_reducible refine (c0 _).mono ?_); rintro e w4 ⟨A4, n4, c4, rfl, ho4, hB4⟩); have u4 : n4 = 20 := (by rw [← ho4.len]; exact HL.out); subst u4; have U4 := below_then hB3 hB4; have p4 := (P0.below U4).cell)
      | (go_at_call 17; ((with_reducible refine (right_any p A1 n1 c1 A2 n2 c2 _ (y1.below U4) (y2.below U4)).mono ?_); rintro e w5 ⟨rfl, hB5⟩)))
    go_ret
    exact ⟨rfl, below_then (below_then R1 U4) hB5⟩
end Go.Proofs.Ytkjhickjgncheaa

import Derived.Test.YtkjhickjgncheaaIpV
import Derived.Test.YtkjhickjgncheaaIpS2
namespace Go.Proofs.Ytkjhickjgncheaa
open Go.RowKit
set_option linter.unusedVariables false
set_option linter.unusedSimpArgs false
set_option linter.unusedSimpArgs false
set_option maxHeartbeats 4000000
set_option maxRecDepth 100000

theorem flip_tab : ∀ (a : Fin 256) (r : Fin 8), 0 ≤ bits .xor .u8 (a.val : Int) (2 ^ r.val) ∧ bits .xor .u8 (a.val : Int) (2 ^ r.val) ≤ 255 ∧ bits .xor .u8 (a.val : Int) (2 ^ r.val) ≠ (a.val : Int) ∧ ((a.val : Int) / 16 = 4 → 4 ≤ r.val → bits .xor .u8 (a.val : Int) (2 ^ r.val) / 16 ≠ 4) := by decide +kernel
theorem flip_any {a r : Int} (a0 : 0 ≤ a) (a1 : a ≤ 255) (r0 : 0 ≤ r) (r1 : r < 8) : 0 ≤ bits .xor .u8 a (2 ^ r.toNat) ∧ bits .xor .u8 a (2 ^ r.toNat) ≤ 255 ∧ bits .xor .u8 a (2 ^ r.toNat) ≠ a ∧ (a / 16 = 4 → 4 ≤ r → bits .xor .u8 a (2 ^ r.toNat) / 16 ≠ 4) := by
  have h := flip_tab ⟨a.toNat, by omega⟩ ⟨r.toNat, by omega⟩
  have e : ((a.toNat : Nat) : Int) = a := by omega
  simp only [e] at h
  exact ⟨h.1, h.2.1, h.2.2.1, fun h1 h2 => h.2.2.2 h1 (by omega)⟩
theorem shl_any {r : Int} (r0 : 0 ≤ r) (r1 : r < 8) (W : World) : Sem.run Try.prog (Op.shift BinOp.shl IntKind.u8 1 IntKind.i64 r) W = .ok (.int .u8 (2 ^ r.toNat)) W := by
  have : r = 0 ∨ r = 1 ∨ r = 2 ∨ r = 3 ∨ r = 4 ∨ r = 5 ∨ r = 6 ∨ r = 7 := by omega
  rcases this with rfl | rfl | rfl | rfl | rfl | rfl | rfl | rfl <;> rfl
theorem ipv4Flips_walk (w : World) (p : Pkt) (hp : p.Ok) (A1 : Option Addr) (n1 c1 : Nat) (A2 : Option Addr) (n2 c2 : Nat) (k1 : Bs w A1 n1 c1 p.opt) (k2 : Bs w A2 n2 c2 p.dat) (x : Int) (x0 : 0 ≤ x) (x1 : x ≤ 65535) :
    Calls Try.prog 10 #[(.agg #[.int .u8 (p).tos, .int .u16 (p).id, .bool (p).keep, .int .u8 (p).ttl, .int .u8 (p).proto, .int .u32 (p).src, .int .u32 (p).dst, .slice A1 n1 c1, .slice A2 n2 c2]), .int .u16 x] w fun e w' => e = .returned (.bool true) ∧ Below w.heap.size w w' := by
  have cb := fun W k1 k2 => bd_any p hp A1 n1 c1 A2 n2 c2 W k1 k2
  obtain ⟨k, hk⟩ : ∃ k : Nat, w.heap.size = k := ⟨_, rfl⟩
  obtain ⟨w1, hw1⟩ : ∃ w1, w.alloc (.cells #[.int .u8 (p).tos, .int .u16 (p).id, .bool (p).keep, .int .u8 (p).ttl, .int .u8 (p).proto, .int .u32 (p).src, .int .u32 (p).dst, .slice A1 n1 c1, .slice A2 n2 c2] 26) = w1 := ⟨_, rfl⟩
  have P0 : Blk w1 k #[.int .u8 (p).tos, .int .u16 (p).id, .bool (p).keep, .int .u8 (p).ttl, .int .u8 (p).proto, .int .u32 (p).src, .int .u32 (p).dst, .slice A1 n1 c1, .slice A2 n2 c2] 26 := by rw [← hw1]; exact blk_new w _ _ k hk
  have R1 : Below w.heap.size w w1 := by rw [← hw1]; (repeat (first | with_reducible exact Below.refl _ _ | with_reducible refine below_drew ?_ | with_reducible refine below_drewN ?_ _ | with_reducible refine below_alloc ?_ (Nat.le_refl _) _ | with_reducible refine Below.setCell ?_ (by first | exact Nat.le_refl _ | (simp only []; omega)) _ | with_reducible assumption))
  have y1 := k1.below R1
  have y2 := k2.below R1
  have pc := P0.cell
  have l1 := k1.len
  have l2 := k2.len
  clear k1 k2
  by_cases h : bdE p = 0
  · have hct : ∀ j x, 0 ≤ x → x ≤ 255 → j < 20 + p.opt.length → x ≠ bt (bdL p) j → (j = 0 → x / 16 ≠ 4) → rdE false ((bdL p).set j (ub x)) ≠ 0 := fun j x a b c d e => flip_told hp h a b c d e
    have hN := bdL_len h
    have hZ := bdE_zero h
    have hb0 : bt (bdL p) 0 = 69 + (p.opt.length : Int) / 4 := by rw [bdL_form h]; exact (hx_at hp (csum_lo _) (csum_hi _) _ hZ.1 hZ.2.2).1
    simp only [h] at cb
    obtain ⟨L, hL⟩ : ∃ L, bdL p = L := ⟨_, rfl⟩
    simp only [hL] at cb hct hN hb0
    have hs := sameP_self zP
    rw [l1] at hct hb0
    obtain ⟨N, hNN⟩ : ∃ N, L.length = N := ⟨_, rfl⟩
    rw [hNN] at hN
    have n0 : 20 + n1 ≤ N := by omega
    have n9 : N ≤ 65535 := by omega
    obtain ⟨h', hh⟩ : ∃ h' : Int, 20 + (n1 : Int) = h' := ⟨_, rfl⟩
    obtain ⟨H, hH⟩ : ∃ H : Int, h' * 8 = H := ⟨_, rfl⟩
    have m0 : 0 ≤ x % H := Int.emod_nonneg _ (by omega)
    have m1 : x % H < H := Int.emod_lt_of_pos _ (by omega)
    have hz : (H == 0) = false := by simp; omega
    obtain ⟨m, hm⟩ : ∃ m : Int, x % H = m := ⟨_, rfl⟩
    rw [hm] at m0 m1
    have HNN := Lib.hid hNN
    have HHN := Lib.hid hN
    have HCT := Lib.hid hct
    have HB0 := Lib.hid hb0
    have hl0 : (cu []).toArray = #[] := rfl
    have h60 : h' ≤ 60 := by omega
    have hNi : h' ≤ N := by omega
    clear hct hNN hN hZ h hL l1 l2 hb0
    by_cases q : m < 4
    · go_enter Try.func10, Try.ntmps10
      go_wp2_with (first
        | (go_at_call 14; ((with_reducible refine (cb _ y1 y2).mono ?_); rintro e w3 ⟨A3, n3, c3, rfl, ho3, hB3⟩); have u3 : n3 = N := (by rw [← ho3.len]; exact HNN.out); subst u3; have p3 := (P0.below hB3).cell)
        | (go_at_call 16; ((with_reducible refine (live02_any _).mono ?_); rintro e w5 ⟨rfl, hB5⟩)))
      go_ret
      exact ⟨rfl, below_then (below_then R1 hB3) hB5⟩
    · obtain ⟨j, hj⟩ : ∃ j : Nat, m / 8 = j := ⟨(m / 8).toNat, by omega⟩
      obtain ⟨r, hr⟩ : ∃ r : Int, m % 8 = r := ⟨_, rfl⟩
      have j1 : (j : Int) < N := by omega
      have r0 : 0 ≤ r := by omega
      have r1 : r < 8 := by omega
      have hd1 : IntKind.i64.wrap (m.tdiv 8) = (j : Int) := by
        rw [Int.tdiv_eq_ediv_of_nonneg (by omega), hj]; simp [IntKind.wrap, IntKind.signed, IntKind.bits]; omega
      have hd2 : m.tmod 8 = r := by rw [Int.tmod_eq_emod_of_nonneg (by omega), hr]
      obtain ⟨f0, f1, f2, f3⟩ := flip_any (bt_lo L j) (bt_hi L j) r0 r1
      have S1 : (0 : Int) ≤ 2 ^ r.toNat ∧ (2 : Int) ^ r.toNat ≤ 128 := by
        have : r = 0 ∨ r = 1 ∨ r = 2 ∨ r = 3 ∨ r = 4 ∨ r = 5 ∨ r = 6 ∨ r = 7 := by omega
        rcases this with e | e | e | e | e | e | e | e <;> (rw [e]; decide)
      have hS2 : (2 : Int) ^ r.toNat % 256 = 2 ^ r.toNat := by omega
      obtain ⟨S, hS⟩ : ∃ S : Int, 2 ^ r.toNat % 256 = S := ⟨_, rfl⟩
      rw [← hS2, hS] at f0 f1 f2 f3 S1
      obtain ⟨S0, S1⟩ := S1
      clear hS2
      obtain ⟨X, hX⟩ : ∃ X, bits .xor .u8 (bt L j) S = X := ⟨_, rfl⟩
      rw [hX] at f0 f1 f2 f3
      have hF := HCT.out j X f0 f1 (by omega) f2 (fun e => f3 (by subst e; have := HB0.out; omega) (by omega))
      have hFe : (rdE false (L.set j (ub X)) != 0) = true := by simpa using hF
      have HP := Lib.hid (rdPk_bad hF)
      obtain ⟨E, hE⟩ : ∃ E, rdE false (L.set j (ub X)) = E := ⟨_, rfl⟩
      rw [hE] at hFe
      have HE := Lib.hid hE
      clear hF hE f2 f3
      go_enter Try.func10, Try.ntmps10
      go_wp2_with (first
        | (go_at_call 14; ((with_reducible refine (cb _ y1 y2).mono ?_); rintro e w3 ⟨A3, n3, c3, rfl, ho3, hB3⟩); have u3 : n3 = N := (by rw [← ho3.len]; exact HNN.out); subst u3; have z3 := ho3.bs; have p3 := (P0.below hB3).cell)
        | (at_builtin; refine wpList_append_bs (w0 := w3) _ rfl _ _ _ rfl w3.heap.size 5 Try.underlying24 info_u8 (some ⟨_, 0, none⟩) 0 0 [] rfl (own_litk _ _ (by simp) w3.heap.size 5 [] 0 rfl (by omega) (by omega)) A3 n3 c3 L rfl (z3.alloc _) (by (repeat (first | with_reducible exact Below.refl _ _ | with_reducible refine below_drew ?_ | with_reducible refine below_drewN ?_ _ | with_reducible refine below_alloc ?_ (Nat.le_refl _) _ | with_reducible refine Below.setCell ?_ (by first | exact Nat.le_refl _ | (simp only []; omega)) _ | with_reducible assumption))) (by omega) (by first | exact Nat.le_refl _ | exact Below.size (by (repeat (first | with_reducible exact Below.refl _ _ | with_reducible refine below_drew ?_ | with_reducible refine below_drewN ?_ _ | with_reducible refine below_alloc ?_ (Nat.le_refl _) _ | with_reducible refine Below.setCell ?_ (by first | exact Nat.le_refl _ | (simp only []; omega)) _ | with_reducible assumption))) | omega | (simp <;> omega)) ?_; intro A4 n4 c4 w4 ho4 hB4 _ hz4; have u4 : n4 = n3 := (by have := ho4.len; have := z3.len; simp at *; omega); subst u4; replace ho4 : Own w4 w3.heap.size 5 A4 n4 c4 L := ho4; (obtain ⟨g, rfl, g1, g2⟩ := ho4.ptr (by omega)); have aj := ho4.at_ (i := j) (by omega)))
      refine region_txt 10 (by kernel_rfl) (by kernel_rfl) ?_; (iterate 10 (first | (apply ObsK.skip (by rfl)) | (apply ObsK.v (by rfl); (intro wo hT; (repeat (first | (intro _ _ k; try have hcv := cv k))); (have aj := (ho4.below hT).at_ (i := j) (by omega)); refine Goes.mk ?_; go_simp; first | exact goes_v | exact goes_b (by assumption) | (refine goes_enter ?_; first | fail))) | (apply ObsK.b (by rfl); (intro wo hT; (repeat (first | (intro _ _ k; try have hcv := cv k))); (have aj := (ho4.below hT).at_ (i := j) (by omega)); refine Goes.mk ?_; go_simp; first | exact goes_v | exact goes_b (by assumption) | (refine goes_enter ?_; first | fail))))); refine ObsK.nil ?_; intro wz hBz; simp only [finOn, List.drop_succ_cons, List.drop_zero, List.drop_nil]
      go_simp
      have O5 := (ho4.below hBz).set_ (i := j) (by omega) X (y := X) (by omega)
      have T5 := (below_then hB4 hBz).setCell (p := ⟨g, j, none⟩) g1 (.int .u8 X)
      have c5 := (ho4.below hBz).at_ (i := j) (by omega)
      go_wp2_with fail
      obtain ⟨w6, hw6⟩ : ∃ w6, wz.setCell ⟨g, j, none⟩ (.int .u8 X) = w6 := ⟨_, rfl⟩
      rw [hw6] at O5 T5 ⊢
      refine (ipParse_v HP.out HE.out _ _ _ _ O5.bs).mono ?_
      rintro e w7 ⟨C1, e1, f1, C2, e2, f2, rfl, i1, i2, T7⟩
      have U7 := below_then T5 T7
      clear c5 O5 T5 hw6
      go_wp2_with (first
        | (go_at_call 16; ((with_reducible refine (live02_any _).mono ?_); rintro e w8 ⟨rfl, hB8⟩); have q8 := ((blk_new w7 _ _ _ rfl).below hB8).cell; have U8 := below_then (below_alloc U7 (Nat.le_refl _) _) hB8)
        | (go_at_call 20; ((with_reducible refine (rsame_zero zP C1 e1 f1 C2 e2 f2 _ ((i1.alloc _).below hB8) ((i2.alloc _).below hB8)).mono ?_); rintro e w9 ⟨rfl, hB9⟩)))
      go_ret
      exact ⟨rfl, below_then (below_then R1 (below_then hB3 U8)) hB9⟩
  · have he : (bdE p != 0) = true := by simpa using h
    obtain ⟨E, hE⟩ : ∃ E, bdE p = E := ⟨_, rfl⟩
    simp only [hE] at cb he
    clear h hE
    go_enter Try.func10, Try.ntmps10
    go_wp2_with (first
      | (go_at_call 14; ((with_reducible refine (cb _ y1 y2).mono ?_); rintro e w3 ⟨A3, n3, c3, rfl, ho3, hB3⟩))
      | (go_at_call 16; ((with_reducible refine (live02_any _).mono ?_); rintro e w4 ⟨rfl, hB4⟩)))
    go_ret
    exact ⟨rfl, below_then (below_then R1 hB3) hB4⟩
end Go.Proofs.Ytkjhickjgncheaa

/- Parts of the proofs of this seat, laid together. -/
import Derived.BigRegion
import Derived.Test.YtjhpmeagopdaiaaMb3
namespace Go.Proofs.Ytjhpmeagopdaiaa
open Go.RowKit
set_option linter.unusedVariables false
set_option linter.unusedSimpArgs false
set_option linter.unusedSimpArgs false
set_option maxHeartbeats 8000000
set_option maxRecDepth 100000

structure WyPost (w : World) (x y E : Int) (e : Ending) (w' : World) : Prop where
  out : ∃ a b, e = .returned (.tuple #[.agg #[.int .u16 a, .int .u16 b], .int .i64 E]) ∧ (E = 0 → a = x ∧ b = y) ∧ Below w.heap.size w w'
theorem ktwo_any (p : Pkt) (A1 : Option Addr) (n1 c1 : Nat) (A2 : Option Addr) (n2 c2 : Nat) (w : World) (k2 : Bs w A2 n2 c2 p.dat) :
    Calls Try.prog 72 #[(.agg #[.int .u8 (p).tos, .int .u16 (p).id, .bool (p).keep, .int .u8 (p).ttl, .int .u8 (p).proto, .int .u32 (p).src, .int .u32 (p).dst, .slice A1 n1 c1, .slice A2 n2 c2])] w (WyPost w (get16 p.dat 0) (get16 p.dat 2) 0) := by
  have c0 := fun W h => get16_any A2 n2 c2 p.dat 0 W h
  have c2' := fun W h => get16_any A2 n2 c2 p.dat 2 W h
  obtain ⟨g0, hg0⟩ : ∃ g, get16 p.dat 0 = g := ⟨_, rfl⟩
  obtain ⟨g2, hg2⟩ : ∃ g, get16 p.dat 2 = g := ⟨_, rfl⟩
  rw [hg0] at c0
  rw [hg2] at c2'
  rw [hg0, hg2]
  clear hg0 hg2
  obtain ⟨k, hk⟩ : ∃ k : Nat, w.heap.size = k := ⟨_, rfl⟩
  obtain ⟨w1, hw1⟩ : ∃ W, ((w.alloc (.cells #[.int .u8 (p).tos, .int .u16 (p).id, .bool (p).keep, .int .u8 (p).ttl, .int .u8 (p).proto, .int .u32 (p).src, .int .u32 (p).dst, .slice A1 n1 c1, .slice A2 n2 c2] 26)).alloc (.cells #[.int .u16 0, .int .u16 0] 87)) = W := ⟨_, rfl⟩
  have P1 : Blk w1 k #[.int .u8 (p).tos, .int .u16 (p).id, .bool (p).keep, .int .u8 (p).ttl, .int .u8 (p).proto, .int .u32 (p).src, .int .u32 (p).dst, .slice A1 n1 c1, .slice A2 n2 c2] 26 := by rw [← hw1]; exact ((blk_new _ _ _ k (by simp [hk])).alloc _)
  have Z1 : Blk w1 (k + 1) #[.int .u16 0, .int .u16 0] 87 := by rw [← hw1]; exact (blk_new _ _ _ (k + 1) (by simp [hk]))
  have R1 : Below w.heap.size w w1 := by rw [← hw1]; (repeat (first | with_reducible exact Below.refl _ _ | with_reducible refine below_drew ?_ | with_reducible refine below_drewN ?_ _ | with_reducible refine below_alloc ?_ (Nat.le_refl _) _ | with_reducible refine Below.setCell ?_ (by first | exact Nat.le_refl _ | (simp only []; omega)) _ | with_reducible assumption))
  have Pc1 := P1.cell
  have Zc1 := Z1.cell
  have Pl1 := P1.lt
  have Zl1 := Z1.lt
  have x1 := (k2).below R1
  go_enter Try.func72, Try.ntmps72
  go_wp2_with fail
  refine region_txt 7 (by kernel_rfl) (by kernel_rfl) ?_; (iterate 7 (first | (apply ObsK.skip (by rfl)) | (apply ObsK.v (by rfl); (intro wo hT; (repeat (first | (intro _ _ k; try have hcv := cv k))); (have pc := (P1.below hT).cell; have x2 := x1.below hT); refine Goes.mk ?_; go_simp; first | exact goes_v | exact goes_b (by assumption) | (refine goes_enter ?_; first | (go_at_call 67; ((with_reducible refine (c0 wo x2).mono ?_); rintro e w5 ⟨rfl, hD5⟩); exact ret_v hD5.bel) | (go_at_call 67; ((with_reducible refine (c2' wo x2).mono ?_); rintro e w5 ⟨rfl, hD5⟩); exact ret_v hD5.bel)))) | (apply ObsK.b (by rfl); (intro wo hT; (repeat (first | (intro _ _ k; try have hcv := cv k))); (have pc := (P1.below hT).cell; have x2 := x1.below hT); refine Goes.mk ?_; go_simp; first | exact goes_v | exact goes_b (by assumption) | (refine goes_enter ?_; first | (go_at_call 67; ((with_reducible refine (c0 wo x2).mono ?_); rintro e w5 ⟨rfl, hD5⟩); exact ret_v hD5.bel) | (go_at_call 67; ((with_reducible refine (c2' wo x2).mono ?_); rintro e w5 ⟨rfl, hD5⟩); exact ret_v hD5.bel)))))); refine ObsK.nil ?_; intro wz hBz; simp only [finOn, List.drop_succ_cons, List.drop_zero, List.drop_nil]
  go_simp
  have P2 := P1.below hBz
  have Pc2 := P2.cell
  clear Pc1
  have Z2 := Z1.below hBz
  have Zc2 := Z2.cell
  clear Zc1
  have x2 := x1.below hBz
  have R2 := below_then R1 hBz
  go_wp2_with fail
  obtain ⟨wf, hwf, Sf⟩ := store2 Z2 (.int .u16 g0) (.int .u16 g2)
  rw [hwf]
  have pf := Sf.blk.cell
  exact bodyPost_ret (v := .tuple #[.agg #[.int .u16 g0, .int .u16 g2], .int .i64 0]) (by simp [results, Try.results72, go_sem, pf]) rfl ⟨_, _, rfl, (fun _ => ⟨rfl, rfl⟩), Sf.bel R2 (by omega)⟩

theorem qecho_any (p : Pkt) (A1 : Option Addr) (n1 c1 : Nat) (A2 : Option Addr) (n2 c2 : Nat) (w : World) (k2 : Bs w A2 n2 c2 p.dat) (h8 : 8 ≤ n2) :
    Calls Try.prog 76 #[(.agg #[.int .u8 (p).tos, .int .u16 (p).id, .bool (p).keep, .int .u8 (p).ttl, .int .u8 (p).proto, .int .u32 (p).src, .int .u32 (p).dst, .slice A1 n1 c1, .slice A2 n2 c2])] w (WyPost w (get16 p.dat 4) (get16 p.dat 4) (if qEch p.dat = false then 12 else 0)) := by
  have cg := fun W h => get16_any A2 n2 c2 p.dat 4 W h
  have hmo : (⟨bt p.dat 0, bt p.dat 1, 0, []⟩ : Msg).Ok := ⟨⟨bt_lo _ _, bt_hi _ _⟩, ⟨bt_lo _ _, bt_hi _ _⟩, by constructor <;> simp⟩
  have ce := fun W => isecho_any ⟨bt p.dat 0, bt p.dat 1, 0, []⟩ hmo none 0 0 W
  obtain ⟨g, hg⟩ : ∃ g, get16 p.dat 4 = g := ⟨_, rfl⟩
  obtain ⟨b, hb⟩ : ∃ b, qEch p.dat = b := ⟨_, rfl⟩
  rw [show isEchoM ⟨bt p.dat 0, bt p.dat 1, 0, []⟩ = b from hb] at ce
  rw [hg] at cg
  rw [hb, hg]
  clear hb hg hmo
  obtain ⟨bb, off, rfl⟩ := k2.some_ (by omega)
  have q0 : 0 < n2 := by omega
  have q0' : (0 : Int) < n2 := by omega
  have q1 : (1 : Int) < n2 := by omega
  have b2 := k2.max
  obtain ⟨k, hk⟩ : ∃ k : Nat, w.heap.size = k := ⟨_, rfl⟩
  obtain ⟨w1, hw1⟩ : ∃ W, ((w.alloc (.cells #[.int .u8 (p).tos, .int .u16 (p).id, .bool (p).keep, .int .u8 (p).ttl, .int .u8 (p).proto, .int .u32 (p).src, .int .u32 (p).dst, .slice A1 n1 c1, .slice (some ⟨bb, off, none⟩) n2 c2] 26)).alloc (.cells #[.int .u16 0, .int .u16 0] 87)) = W := ⟨_, rfl⟩
  have P1 : Blk w1 k #[.int .u8 (p).tos, .int .u16 (p).id, .bool (p).keep, .int .u8 (p).ttl, .int .u8 (p).proto, .int .u32 (p).src, .int .u32 (p).dst, .slice A1 n1 c1, .slice (some ⟨bb, off, none⟩) n2 c2] 26 := by rw [← hw1]; exact ((blk_new _ _ _ k (by simp [hk])).alloc _)
  have Z1 : Blk w1 (k + 1) #[.int .u16 0, .int .u16 0] 87 := by rw [← hw1]; exact (blk_new _ _ _ (k + 1) (by simp [hk]))
  have R1 : Below w.heap.size w w1 := by rw [← hw1]; (repeat (first | with_reducible exact Below.refl _ _ | with_reducible refine below_drew ?_ | with_reducible refine below_drewN ?_ _ | with_reducible refine below_alloc ?_ (Nat.le_refl _) _ | with_reducible refine Below.setCell ?_ (by first | exact Nat.le_refl _ | (simp only []; omega)) _ | with_reducible assumption))
  have Pc1 := P1.cell
  have Zc1 := Z1.cell
  have Pl1 := P1.lt
  have Zl1 := Z1.lt
  have x1 := (k2).below R1
  cases b
  · skip
    go_enter Try.func76, Try.ntmps76
    go_wp2_with fail
    refine region_txt 11 (by kernel_rfl) (by kernel_rfl) ?_; (iterate 11 (first | (apply ObsK.skip (by rfl)) | (apply ObsK.v (by rfl); (intro wo hT; (repeat (first | (intro _ _ k; try have hcv := cv k))); (have pc := (P1.below hT).cell; have bo := x1.below hT; have c0 := bo.at_ (j := 0) (by omega); rw [Nat.add_zero] at c0; have c1 := bo.at_ (j := 1) (by omega)); refine Goes.mk ?_; go_simp; first | exact goes_v | exact goes_b (by assumption) | (refine goes_enter ?_; first | (go_at_call 100; ((with_reducible refine (ce wo).mono ?_); rintro e w5 ⟨rfl, hD5⟩); exact ret_v hD5)))) | (apply ObsK.b (by rfl); (intro wo hT; (repeat (first | (intro _ _ k; try have hcv := cv k))); (have pc := (P1.below hT).cell; have bo := x1.below hT; have c0 := bo.at_ (j := 0) (by omega); rw [Nat.add_zero] at c0; have c1 := bo.at_ (j := 1) (by omega)); refine Goes.mk ?_; go_simp; first | exact goes_v | exact goes_b (by assumption) | (refine goes_enter ?_; first | (go_at_call 100; ((with_reducible refine (ce wo).mono ?_); rintro e w5 ⟨rfl, hD5⟩); exact ret_v hD5)))))); refine ObsK.nil ?_; intro wz hBz; simp only [finOn, List.drop_succ_cons, List.drop_zero, List.drop_nil]
    go_simp
    have P2 := P1.below hBz
    have Pc2 := P2.cell
    clear Pc1
    have Z2 := Z1.below hBz
    have Zc2 := Z2.cell
    clear Zc1
    have x2 := x1.below hBz
    have R2 := below_then R1 hBz
    go_wp2_with fail
    obtain ⟨wf, hwf, Sf⟩ := store2 Z2 (.int .u16 0) (.int .u16 0)
    rw [hwf]
    have pf := Sf.blk.cell
    exact bodyPost_ret (v := .tuple #[.agg #[.int .u16 0, .int .u16 0], .int .i64 12]) (by simp [results, Try.results76, go_sem, pf]) rfl ⟨_, _, rfl, (fun h => by simp at h), Sf.bel R2 (by omega)⟩

  · skip
    go_enter Try.func76, Try.ntmps76
    go_wp2_with fail
    refine region_txt 11 (by kernel_rfl) (by kernel_rfl) ?_; (iterate 11 (first | (apply ObsK.skip (by rfl)) | (apply ObsK.v (by rfl); (intro wo hT; (repeat (first | (intro _ _ k; try have hcv := cv k))); (have pc := (P1.below hT).cell; have bo := x1.below hT; have c0 := bo.at_ (j := 0) (by omega); rw [Nat.add_zero] at c0; have c1 := bo.at_ (j := 1) (by omega)); refine Goes.mk ?_; go_simp; first | exact goes_v | exact goes_b (by assumption) | (refine goes_enter ?_; first | (go_at_call 100; ((with_reducible refine (ce wo).mono ?_); rintro e w5 ⟨rfl, hD5⟩); exact ret_v hD5)))) | (apply ObsK.b (by rfl); (intro wo hT; (repeat (first | (intro _ _ k; try have hcv := cv k))); (have pc := (P1.below hT).cell; have bo := x1.below hT; have c0 := bo.at_ (j := 0) (by omega); rw [Nat.add_zero] at c0; have c1 := bo.at_ (j := 1) (by omega)); refine Goes.mk ?_; go_simp; first | exact goes_v | exact goes_b (by assumption) | (refine goes_enter ?_; first | (go_at_call 100; ((with_reducible refine (ce wo).mono ?_); rintro e w5 ⟨rfl, hD5⟩); exact ret_v hD5)))))); refine ObsK.nil ?_; intro wz hBz; simp only [finOn, List.drop_succ_cons, List.drop_zero, List.drop_nil]
    go_simp
    have P2 := P1.below hBz
    have Pc2 := P2.cell
    clear Pc1
    have Z2 := Z1.below hBz
    have Zc2 := Z2.cell
    clear Zc1
    have x2 := x1.below hBz
    have R2 := below_then R1 hBz
    go_wp2_with (go_at_call 67; ((with_reducible refine (cg wz x2).mono ?_); rintro e w3 ⟨rfl, hD3⟩); have hB3 := hD3.bel; have P3 := P2.below hB3; have Pc3 := P3.cell; clear Pc2; have Z3 := Z2.below hB3; have Zc3 := Z3.cell; clear Zc2; have x3 := x2.below hB3; have R3 := below_then R2 hB3)
    obtain ⟨wf, hwf, Sf⟩ := store2 Z3 (.int .u16 g) (.int .u16 g)
    rw [hwf]
    have pf := Sf.blk.cell
    exact bodyPost_ret (v := .tuple #[.agg #[.int .u16 g, .int .u16 g], .int .i64 0]) (by simp [results, Try.results76, go_sem, pf]) rfl ⟨_, _, rfl, fun _ => ⟨rfl, rfl⟩, Sf.bel R3 (by omega)⟩

theorem qframe_any (p : Pkt) (A1 : Option Addr) (n1 c1 : Nat) (A2 : Option Addr) (n2 c2 : Nat) (w : World) (k2 : Bs w A2 n2 c2 p.dat) (h8 : 8 ≤ n2) :
    Calls Try.prog 78 #[(.agg #[.int .u8 (p).tos, .int .u16 (p).id, .bool (p).keep, .int .u8 (p).ttl, .int .u8 (p).proto, .int .u32 (p).src, .int .u32 (p).dst, .slice A1 n1 c1, .slice A2 n2 c2])] w (WyPost w 0 (get16 p.dat 6) (if begB p.dat = false then 4 else 0)) := by
  have l2 := k2.len
  have hbeg := beg_get32 (l := p.dat) (by omega)
  obtain ⟨b0, hb0⟩ : ∃ b, bt p.dat 0 = b := ⟨_, rfl⟩
  obtain ⟨b1, hb1⟩ : ∃ b, bt p.dat 1 = b := ⟨_, rfl⟩
  obtain ⟨s, hs⟩ : ∃ s, (b0 == 48) = s := ⟨_, rfl⟩
  obtain ⟨a, ha⟩ : ∃ s, (b1 == 129) = s := ⟨_, rfl⟩
  rw [hb0, hb1, hs, ha] at hbeg
  have hfo : (⟨0, s, a, 0, 0, []⟩ : Frm).Ok := ⟨by constructor <;> simp, by constructor <;> simp, by constructor <;> simp⟩
  have hbad : gBad ⟨0, s, a, 0, 0, []⟩ = false := by unfold gBad; simp
  have hE : bgE zP ⟨0, s, a, 0, 0, []⟩ = 0 := by
    unfold bgE wiE gN
    rw [hbad]
    cases s <;> cases a <;> simp [zP]
  have hP := bgP_ok hE
  obtain ⟨L, hL⟩ : ∃ L, gL ⟨0, s, a, 0, 0, []⟩ = L := ⟨_, rfl⟩
  rw [hL] at hP hbeg
  have cb : ∀ W, Calls Try.prog 49 #[.agg #[.int .u8 0, .int .u16 0, .bool false, .int .u8 0, .int .u8 0, .int .u32 0, .int .u32 0, .slice none 0 0, .slice none 0 0], .agg #[.int .u16 0, .bool s, .bool a, .int .u32 0, .int .u32 0, .slice none 0 0]] W fun e w' => ∃ B1 m1 d1 B2 m2 d2, e = .returned (.tuple #[.agg #[.int .u8 0, .int .u16 0, .bool false, .int .u8 0, .int .u8 47, .int .u32 0, .int .u32 0, .slice B1 m1 d1, .slice B2 m2 d2], .int .i64 0]) ∧ Bs w' B2 m2 d2 L ∧ Below W.heap.size W w' := fun W => by
    refine (bg_any zP none 0 0 none 0 0 ⟨0, s, a, 0, 0, []⟩ hfo none 0 0 W (Bs.none_ _) (Bs.none_ _) (by omega)).mono fun e w' hq => ?_
    obtain ⟨B1, m1, d1, B2, m2, d2, rfl, -, h2, h3⟩ := hq.out
    rw [hP] at h2 ⊢
    rw [hE]
    exact ⟨B1, m1, d1, B2, m2, d2, rfl, h2.bs, h3⟩
  have cg := fun W h => get16_any A2 n2 c2 p.dat 6 W h
  have c3 := fun W h => get32_any A2 n2 c2 p.dat 0 W h
  have c4 := fun B m d W h => get32_any B m d L 0 W h
  obtain ⟨g, hg⟩ : ∃ g, get16 p.dat 6 = g := ⟨_, rfl⟩
  obtain ⟨y, hy⟩ : ∃ g, get32 p.dat 0 = g := ⟨_, rfl⟩
  obtain ⟨z, hz⟩ : ∃ g, get32 L 0 = g := ⟨_, rfl⟩
  obtain ⟨b, hb⟩ : ∃ b, begB p.dat = b := ⟨_, rfl⟩
  rw [hg] at cg
  rw [hy] at c3 hbeg
  rw [hz] at c4 hbeg
  rw [hb] at hbeg
  rw [hb, hg]
  clear hb hg hy hz hP hE hL hbad hfo l2
  obtain ⟨bb, off, rfl⟩ := k2.some_ (by omega)
  have q0 : 0 < n2 := by omega
  have q0' : (0 : Int) < n2 := by omega
  have q1 : (1 : Int) < n2 := by omega
  have b2 := k2.max
  obtain ⟨k, hk⟩ : ∃ k : Nat, w.heap.size = k := ⟨_, rfl⟩
  obtain ⟨w1, hw1⟩ : ∃ W, ((w.alloc (.cells #[.int .u8 (p).tos, .int .u16 (p).id, .bool (p).keep, .int .u8 (p).ttl, .int .u8 (p).proto, .int .u32 (p).src, .int .u32 (p).dst, .slice A1 n1 c1, .slice (some ⟨bb, off, none⟩) n2 c2] 26)).alloc (.cells #[.int .u16 0, .int .u16 0] 87)) = W := ⟨_, rfl⟩
  have P1 : Blk w1 k #[.int .u8 (p).tos, .int .u16 (p).id, .bool (p).keep, .int .u8 (p).ttl, .int .u8 (p).proto, .int .u32 (p).src, .int .u32 (p).dst, .slice A1 n1 c1, .slice (some ⟨bb, off, none⟩) n2 c2] 26 := by rw [← hw1]; exact ((blk_new _ _ _ k (by simp [hk])).alloc _)
  have Z1 : Blk w1 (k + 1) #[.int .u16 0, .int .u16 0] 87 := by rw [← hw1]; exact (blk_new _ _ _ (k + 1) (by simp [hk]))
  have R1 : Below w.heap.size w w1 := by rw [← hw1]; (repeat (first | with_reducible exact Below.refl _ _ | with_reducible refine below_drew ?_ | with_reducible refine below_drewN ?_ _ | with_reducible refine below_alloc ?_ (Nat.le_refl _) _ | with_reducible refine Below.setCell ?_ (by first | exact Nat.le_refl _ | (simp only []; omega)) _ | with_reducible assumption))
  have Pc1 := P1.cell
  have Zc1 := Z1.cell
  have Pl1 := P1.lt
  have Zl1 := Z1.lt
  have x1 := (k2).below R1
  have hcell : ∀ W, Bs W (some ⟨bb, off, none⟩) n2 c2 p.dat → W.cell? ⟨bb, off, none⟩ = some (.int .u8 b0) ∧ W.cell? ⟨bb, off + 1, none⟩ = some (.int .u8 b1) := fun W h => by
    have bo := h.at_ (j := 0) (by omega)
    rw [Nat.add_zero, hb0] at bo
    have bp := h.at_ (j := 1) (by omega)
    rw [hb1] at bp
    exact ⟨bo, bp⟩
  clear hb0 hb1
  cases b
  · skip
    go_enter Try.func78, Try.ntmps78
    go_wp2_with fail
    have ho := hcell w1 x1
    have Bv : Below w1.heap.size w1 w1.drew := by (repeat (first | with_reducible exact Below.refl _ _ | with_reducible refine below_drew ?_ | with_reducible refine below_drewN ?_ _ | with_reducible refine below_alloc ?_ (Nat.le_refl _) _ | with_reducible refine Below.setCell ?_ (by first | exact Nat.le_refl _ | (simp only []; omega)) _ | with_reducible assumption))
    go_region
    generalize w1.drew = wv at Bv ⊢
    have P2 := P1.below Bv
    have Pc2 := P2.cell
    clear Pc1
    have Z2 := Z1.below Bv
    have Zc2 := Z2.cell
    clear Zc1
    have x2 := x1.below Bv
    have R2 := below_then R1 Bv
    go_wp2_with (go_at_call 49; ((with_reducible refine (cb wv).mono ?_); rintro e u3 ⟨B1, m1, d1, B2, m2, d2, rfl, k3, hB3⟩); (obtain ⟨w3, hw3⟩ : ∃ W, u3.alloc (.cells #[.int .u8 0, .int .u16 0, .bool false, .int .u8 0, .int .u8 47, .int .u32 0, .int .u32 0, .slice B1 m1 d1, .slice B2 m2 d2] 26) = W := ⟨_, rfl⟩); have V3 : Below u3.heap.size u3 w3 := (by rw [← hw3]; (repeat (first | with_reducible exact Below.refl _ _ | with_reducible refine below_drew ?_ | with_reducible refine below_drewN ?_ _ | with_reducible refine below_alloc ?_ (Nat.le_refl _) _ | with_reducible refine Below.setCell ?_ (by first | exact Nat.le_refl _ | (simp only []; omega)) _ | with_reducible assumption))); (obtain ⟨kQ3, hkQ3⟩ : ∃ k : Nat, u3.heap.size = k := ⟨_, rfl⟩); have Q3 : Blk w3 kQ3 #[.int .u8 0, .int .u16 0, .bool false, .int .u8 0, .int .u8 47, .int .u32 0, .int .u32 0, .slice B1 m1 d1, .slice B2 m2 d2] 26 := (by rw [← hw3]; exact blk_new u3 _ _ _ hkQ3); have Qc3 := Q3.cell; have T3 := below_then hB3 V3; have y3 := (k3).below V3; have P3 := P2.below T3; have Pc3 := P3.cell; clear Pc2; have Z3 := Z2.below T3; have Zc3 := Z3.cell; clear Zc2; have x3 := x2.below T3; have R3 := below_then R2 T3)
    refine region_txt 7 (by kernel_rfl) (by kernel_rfl) ?_; (iterate 7 (first | (apply ObsK.skip (by rfl)) | (apply ObsK.v (by rfl); (intro wo hT; (repeat (first | (intro _ _ k; try have hcv := cv k))); (have pc := (P3.below hT).cell; have qc := (Q3.below hT).cell; have yo := y3.below hT; have xo := x3.below hT); refine Goes.mk ?_; go_simp; first | exact goes_v | exact goes_b (by assumption) | (refine goes_enter ?_; first | (go_at_call 59; ((with_reducible refine (c3 wo xo).mono ?_); rintro e w5 ⟨rfl, hD5⟩); exact ret_v hD5.bel) | (go_at_call 59; ((with_reducible refine (c4 B2 m2 d2 wo yo).mono ?_); rintro e w5 ⟨rfl, hD5⟩); exact ret_v hD5.bel)))) | (apply ObsK.b (by rfl); (intro wo hT; (repeat (first | (intro _ _ k; try have hcv := cv k))); (have pc := (P3.below hT).cell; have qc := (Q3.below hT).cell; have yo := y3.below hT; have xo := x3.below hT); refine Goes.mk ?_; go_simp; first | exact goes_v | exact goes_b (by assumption) | (refine goes_enter ?_; first | (go_at_call 59; ((with_reducible refine (c3 wo xo).mono ?_); rintro e w5 ⟨rfl, hD5⟩); exact ret_v hD5.bel) | (go_at_call 59; ((with_reducible refine (c4 B2 m2 d2 wo yo).mono ?_); rintro e w5 ⟨rfl, hD5⟩); exact ret_v hD5.bel)))))); refine ObsK.nil ?_; intro wz hBz; simp only [finOn, List.drop_succ_cons, List.drop_zero, List.drop_nil]
    go_simp
    have P4 := P3.below hBz
    have Pc4 := P4.cell
    clear Pc3
    have Z4 := Z3.below hBz
    have Zc4 := Z4.cell
    clear Zc3
    have Q4 := Q3.below hBz
    have Qc4 := Q4.cell
    clear Qc3
    have x4 := x3.below hBz
    have y4 := y3.below hBz
    have R4 := below_then R3 hBz
    go_wp2_with fail
    obtain ⟨wf, hwf, Sf⟩ := store2 Z4 (.int .u16 0) (.int .u16 0)
    rw [hwf]
    have pf := Sf.blk.cell
    exact bodyPost_ret (v := .tuple #[.agg #[.int .u16 0, .int .u16 0], .int .i64 4]) (by simp [results, Try.results78, go_sem, pf]) rfl ⟨_, _, rfl, (fun h => by simp at h), Sf.bel R4 (by omega)⟩

  · skip
    go_enter Try.func78, Try.ntmps78
    go_wp2_with fail
    have ho := hcell w1 x1
    have Bv : Below w1.heap.size w1 w1.drew := by (repeat (first | with_reducible exact Below.refl _ _ | with_reducible refine below_drew ?_ | with_reducible refine below_drewN ?_ _ | with_reducible refine below_alloc ?_ (Nat.le_refl _) _ | with_reducible refine Below.setCell ?_ (by first | exact Nat.le_refl _ | (simp only []; omega)) _ | with_reducible assumption))
    go_region
    generalize w1.drew = wv at Bv ⊢
    have P2 := P1.below Bv
    have Pc2 := P2.cell
    clear Pc1
    have Z2 := Z1.below Bv
    have Zc2 := Z2.cell
    clear Zc1
    have x2 := x1.below Bv
    have R2 := below_then R1 Bv
    go_wp2_with (go_at_call 49; ((with_reducible refine (cb wv).mono ?_); rintro e u3 ⟨B1, m1, d1, B2, m2, d2, rfl, k3, hB3⟩); (obtain ⟨w3, hw3⟩ : ∃ W, u3.alloc (.cells #[.int .u8 0, .int .u16 0, .bool false, .int .u8 0, .int .u8 47, .int .u32 0, .int .u32 0, .slice B1 m1 d1, .slice B2 m2 d2] 26) = W := ⟨_, rfl⟩); have V3 : Below u3.heap.size u3 w3 := (by rw [← hw3]; (repeat (first | with_reducible exact Below.refl _ _ | with_reducible refine below_drew ?_ | with_reducible refine below_drewN ?_ _ | with_reducible refine below_alloc ?_ (Nat.le_refl _) _ | with_reducible refine Below.setCell ?_ (by first | exact Nat.le_refl _ | (simp only []; omega)) _ | with_reducible assumption))); (obtain ⟨kQ3, hkQ3⟩ : ∃ k : Nat, u3.heap.size = k := ⟨_, rfl⟩); have Q3 : Blk w3 kQ3 #[.int .u8 0, .int .u16 0, .bool false, .int .u8 0, .int .u8 47, .int .u32 0, .int .u32 0, .slice B1 m1 d1, .slice B2 m2 d2] 26 := (by rw [← hw3]; exact blk_new u3 _ _ _ hkQ3); have Qc3 := Q3.cell; have T3 := below_then hB3 V3; have y3 := (k3).below V3; have P3 := P2.below T3; have Pc3 := P3.cell; clear Pc2; have Z3 := Z2.below T3; have Zc3 := Z3.cell; clear Zc2; have x3 := x2.below T3; have R3 := below_then R2 T3)
    refine region_txt 7 (by kernel_rfl) (by kernel_rfl) ?_; (iterate 7 (first | (apply ObsK.skip (by rfl)) | (apply ObsK.v (by rfl); (intro wo hT; (repeat (first | (intro _ _ k; try have hcv := cv k))); (have pc := (P3.below hT).cell; have qc := (Q3.below hT).cell; have yo := y3.below hT; have xo := x3.below hT); refine Goes.mk ?_; go_simp; first | exact goes_v | exact goes_b (by assumption) | (refine goes_enter ?_; first | (go_at_call 59; ((with_reducible refine (c3 wo xo).mono ?_); rintro e w5 ⟨rfl, hD5⟩); exact ret_v hD5.bel) | (go_at_call 59; ((with_reducible refine (c4 B2 m2 d2 wo yo).mono ?_); rintro e w5 ⟨rfl, hD5⟩); exact ret_v hD5.bel)))) | (apply ObsK.b (by rfl); (intro wo hT; (repeat (first | (intro _ _ k; try have hcv := cv k))); (have pc := (P3.below hT).cell; have qc := (Q3.below hT).cell; have yo := y3.below hT; have xo := x3.below hT); refine Goes.mk ?_; go_simp; first | exact goes_v | exact goes_b (by assumption) | (refine goes_enter ?_; first | (go_at_call 59; ((with_reducible refine (c3 wo xo).mono ?_); rintro e w5 ⟨rfl, hD5⟩); exact ret_v hD5.bel) | (go_at_call 59; ((with_reducible refine (c4 B2 m2 d2 wo yo).mono ?_); rintro e w5 ⟨rfl, hD5⟩); exact ret_v hD5.bel)))))); refine ObsK.nil ?_; intro wz hBz; simp only [finOn, List.drop_succ_cons, List.drop_zero, List.drop_nil]
    go_simp
    have P4 := P3.below hBz
    have Pc4 := P4.cell
    clear Pc3
    have Z4 := Z3.below hBz
    have Zc4 := Z4.cell
    clear Zc3
    have Q4 := Q3.below hBz
    have Qc4 := Q4.cell
    clear Qc3
    have x4 := x3.below hBz
    have y4 := y3.below hBz
    have R4 := below_then R3 hBz
    go_wp2_with (go_at_call 67; ((with_reducible refine (cg wz x4).mono ?_); rintro e w5 ⟨rfl, hD5⟩); have hB5 := hD5.bel; have P5 := P4.below hB5; have Pc5 := P5.cell; clear Pc4; have Z5 := Z4.below hB5; have Zc5 := Z5.cell; clear Zc4; have Q5 := Q4.below hB5; have Qc5 := Q5.cell; clear Qc4; have x5 := x4.below hB5; have y5 := y4.below hB5; have R5 := below_then R4 hB5)
    obtain ⟨wf, hwf, Sf⟩ := store2 Z5 (.int .u16 0) (.int .u16 g)
    rw [hwf]
    have pf := Sf.blk.cell
    exact bodyPost_ret (v := .tuple #[.agg #[.int .u16 0, .int .u16 g], .int .i64 0]) (by simp [results, Try.results78, go_sem, pf]) rfl ⟨_, _, rfl, fun _ => ⟨rfl, rfl⟩, Sf.bel R5 (by omega)⟩

end Go.Proofs.Ytjhpmeagopdaiaa

namespace Go.Proofs.Ytjhpmeagopdaiaa
open Go.RowKit
set_option linter.unusedVariables false
set_option linter.unusedSimpArgs false
set_option linter.unusedSimpArgs false
set_option maxHeartbeats 4000000
set_option maxRecDepth 100000

end Go.Proofs.Ytjhpmeagopdaiaa

namespace Go.Proofs.Ytjhpmeagopdaiaa
open Go.RowKit
set_option linter.unusedVariables false
set_option linter.unusedSimpArgs false
set_option maxHeartbeats 4000000
set_option maxRecDepth 100000

end Go.Proofs.Ytjhpmeagopdaiaa

namespace Go.Proofs.Ytjhpmeagopdaiaa
open Go.RowKit
set_option linter.unusedVariables false
set_option linter.unusedSimpArgs false

end Go.Proofs.Ytjhpmeagopdaiaa

namespace Go.Proofs.Ytjhpmeagopdaiaa
open Go.RowKit
set_option linter.unusedVariables false
set_option linter.unusedSimpArgs false
set_option linter.unusedSimpArgs false
set_option maxHeartbeats 4000000
set_option maxRecDepth 100000

end Go.Proofs.Ytjhpmeagopdaiaa

namespace Go.Proofs.Ytjhpmeagopdaiaa
open Go.RowKit
set_option linter.unusedVariables false
set_option maxRecDepth 100000

def hx (p : Pkt) (c : Int) : List UInt8 := [ub (64 + (20 + (p.opt.length : Int)) / 4), ub p.tos, ub ((20 + (p.opt.length : Int) + (p.dat.length : Int)) / 256), ub (20 + (p.opt.length : Int) + (p.dat.length : Int)), ub (p.id / 256), ub p.id, if p.keep = true then 64 else 0, 0, ub p.ttl, ub p.proto, ub (c / 256), ub c, ub (p.src / 16777216), ub (p.src / 65536), ub (p.src / 256), ub p.src, ub (p.dst / 16777216), ub (p.dst / 65536), ub (p.dst / 256), ub p.dst]
end Go.Proofs.Ytjhpmeagopdaiaa

namespace Go.Proofs.Ytjhpmeagopdaiaa
open Go.RowKit
set_option linter.unusedVariables false

end Go.Proofs.Ytjhpmeagopdaiaa

namespace Go.Proofs.Ytjhpmeagopdaiaa
open Go.RowKit
set_option linter.unusedVariables false
set_option linter.unusedSimpArgs false
set_option maxHeartbeats 4000000
set_option maxRecDepth 100000

end Go.Proofs.Ytjhpmeagopdaiaa

namespace Go.Proofs.Ytjhpmeagopdaiaa
open Go.RowKit
set_option linter.unusedVariables false
set_option linter.unusedSimpArgs false
set_option maxHeartbeats 8000000
set_option maxRecDepth 100000

theorem rdPost_no {w w' : World} {q : Bool} {l : List UInt8} (x : Int) (hE : rdE q l = x) (hx : x ≠ 0) (hB : Below w.heap.size w w') :
    RdPost w q l (.returned (.tuple #[.agg #[.int .u8 0, .int .u16 0, .bool false, .int .u8 0, .int .u8 0, .int .u32 0, .int .u32 0, .slice none 0 0, .slice none 0 0], .int .i64 x])) w' := by
  have hR : rdPk q l = zP := by unfold rdPk; rw [if_neg (by omega)]
  exact ⟨none, 0, 0, none, 0, 0, by rw [hR, hE]; rfl, by rw [hR]; exact Bs.none_ _, by rw [hR]; exact Bs.none_ _, fun x e => (by cases e), fun x e => (by cases e), hB⟩
theorem rread_len (A : Option Addr) (n c : Nat) (l : List UInt8) (q : Bool) (w : World) (hb : Bs w A n c l) (hE0 : lenE q l ≠ 0) :
    Calls Try.prog 97 #[.slice A n c, .bool q] w (RdPost w q l) := by
  have hlen := hb.len
  by_cases h20 : n < 20
  · have h1 : (n : Int) < 20 := by omega
    go_enter Try.func97, Try.ntmps97
    go_wp2_with fail
    have hE : lenE q l = 3 := by unfold lenE; rw [if_pos (by omega)]
    refine bodyPost_ret (v := .tuple #[.agg #[.int .u8 0, .int .u16 0, .bool false, .int .u8 0, .int .u8 0, .int .u32 0, .int .u32 0, .slice none 0 0, .slice none 0 0], .int .i64 3]) (by simp [results, Try.results97, go_sem]) rfl (rdPost_no 3 (by unfold rdE; rw [if_pos hE0, hE]) (by omega) (by (repeat (first | with_reducible exact Below.refl _ _ | with_reducible refine below_drew ?_ | with_reducible refine below_drewN ?_ _ | with_reducible refine below_alloc ?_ (Nat.le_refl _) _ | with_reducible refine Below.setCell ?_ (by first | exact Nat.le_refl _ | (simp only []; omega)) _ | with_reducible assumption))))
  · have h1 : ¬ (n : Int) < 20 := by omega
    obtain ⟨b, off, rfl⟩ := hb.some_ (by omega)
    have b0 := bt_lo l 0
    have b0' := bt_hi l 0
    obtain ⟨h, hh⟩ : ∃ h, hdOf l = h := ⟨_, rfl⟩
    have hh' : bt l 0 % 16 * 4 = h := by rw [← hh]; unfold hdOf; omega
    obtain ⟨g, hg⟩ : ∃ g, get16 l 2 = g := ⟨_, rfl⟩
    have g0 : 0 ≤ g := by rw [← hg]; exact get16_lo l 2
    have g1 : g ≤ 65535 := by rw [← hg]; exact get16_hi l 2
    have g2 : 0 ≤ h := by omega
    have g60 : h ≤ 60 := by omega
    have hb1 := hb.alloc (.cells #[.int .u8 0, .int .u16 0, .bool false, .int .u8 0, .int .u8 0, .int .u32 0, .int .u32 0, .slice none 0 0, .slice none 0 0] 26)
    have c0 := hb1.at_ (j := 0) (by omega)
    rw [Nat.add_zero] at c0
    have hn0 : (0 : Int) < n := by omega
    obtain ⟨x, hx⟩ : ∃ x, bt l 0 / 16 = x := ⟨_, rfl⟩
    have hR : rdE q l = lenE q l := by unfold rdE; rw [if_pos hE0]
    have HR := Lib.hid hR
    have H0 := Lib.hid hE0
    have HL := Lib.hid hlen
    clear hE0 hR
    by_cases hX : q = false ∧ (n : Int) < g
    · have HE : Hid (lenE q l = if x ≠ 4 then 6 else if h < 20 then 4 else if (n : Int) < h then 3 else if g < h then 4 else 3) := by
        unfold Hid lenE
        rw [hlen, if_neg h1, hx, hh, hg, if_pos hX]
      obtain ⟨rfl, hX⟩ := hX
      clear hlen hh
      go_enter Try.func97, Try.ntmps97
      go_wp2_with (go_at_call 55; ((with_reducible refine (rget16_any (some ⟨b, off, none⟩) n c l 2 _ hb1).mono ?_); rintro e w2 ⟨rfl, ⟨⟨d2, rfl⟩⟩⟩))
      all_goals have H1 := HE.out
      all_goals simp only [bne_iff_ne, ne_eq, bne_eq_false_iff_eq, Bool.not_eq_true', Bool.not_eq_false'] at *
      all_goals first
        | (refine bodyPost_ret (v := .tuple #[.agg #[.int .u8 0, .int .u16 0, .bool false, .int .u8 0, .int .u8 0, .int .u32 0, .int .u32 0, .slice none 0 0, .slice none 0 0], .int .i64 3]) ?_ rfl (rdPost_no 3 (HR.out.trans ?_) (by omega) ?_); (focus (simp [results, Try.results97, go_sem]; done)); (focus (rw [H1]; repeat' split; all_goals first | rfl | omega)); (repeat (first | with_reducible exact Below.refl _ _ | with_reducible refine below_drew ?_ | with_reducible refine below_drewN ?_ _ | with_reducible refine below_alloc ?_ (Nat.le_refl _) _ | with_reducible refine Below.setCell ?_ (by first | exact Nat.le_refl _ | (simp only []; omega)) _ | with_reducible assumption)))
        | (refine bodyPost_ret (v := .tuple #[.agg #[.int .u8 0, .int .u16 0, .bool false, .int .u8 0, .int .u8 0, .int .u32 0, .int .u32 0, .slice none 0 0, .slice none 0 0], .int .i64 4]) ?_ rfl (rdPost_no 4 (HR.out.trans ?_) (by omega) ?_); (focus (simp [results, Try.results97, go_sem]; done)); (focus (rw [H1]; repeat' split; all_goals first | rfl | omega)); (repeat (first | with_reducible exact Below.refl _ _ | with_reducible refine below_drew ?_ | with_reducible refine below_drewN ?_ _ | with_reducible refine below_alloc ?_ (Nat.le_refl _) _ | with_reducible refine Below.setCell ?_ (by first | exact Nat.le_refl _ | (simp only []; omega)) _ | with_reducible assumption)))
        | (refine bodyPost_ret (v := .tuple #[.agg #[.int .u8 0, .int .u16 0, .bool false, .int .u8 0, .int .u8 0, .int .u32 0, .int .u32 0, .slice none 0 0, .slice none 0 0], .int .i64 6]) ?_ rfl (rdPost_no 6 (HR.out.trans ?_) (by omega) ?_); (focus (simp [results, Try.results97, go_sem]; done)); (focus (rw [H1]; repeat' split; all_goals first | rfl | omega)); (repeat (first | with_reducible exact Below.refl _ _ | with_reducible refine below_drew ?_ | with_reducible refine below_drewN ?_ _ | with_reducible refine below_alloc ?_ (Nat.le_refl _) _ | with_reducible refine Below.setCell ?_ (by first | exact Nat.le_refl _ | (simp only []; omega)) _ | with_reducible assumption)))
        | (exfalso; apply H0.out; rw [H1]; repeat' split; all_goals first | rfl | omega)
    · have HE : Hid (lenE q l = if x ≠ 4 then 6 else if h < 20 then 4 else if (n : Int) < h then 3 else if g < h then 4 else 0) := by
        unfold Hid lenE
        rw [hlen, if_neg h1, hx, hh, hg, if_neg hX]
      clear hlen hh
      cases q with
      | true =>
        clear hX
        go_enter Try.func97, Try.ntmps97
        go_wp2_with (go_at_call 55; ((with_reducible refine (rget16_any (some ⟨b, off, none⟩) n c l 2 _ hb1).mono ?_); rintro e w2 ⟨rfl, ⟨⟨d2, rfl⟩⟩⟩))
        all_goals have H1 := HE.out
        all_goals simp only [bne_iff_ne, ne_eq, bne_eq_false_iff_eq, Bool.not_eq_true', Bool.not_eq_false'] at *
        all_goals first
          | (refine bodyPost_ret (v := .tuple #[.agg #[.int .u8 0, .int .u16 0, .bool false, .int .u8 0, .int .u8 0, .int .u32 0, .int .u32 0, .slice none 0 0, .slice none 0 0], .int .i64 3]) ?_ rfl (rdPost_no 3 (HR.out.trans ?_) (by omega) ?_); (focus (simp [results, Try.results97, go_sem]; done)); (focus (rw [H1]; repeat' split; all_goals first | rfl | omega)); (repeat (first | with_reducible exact Below.refl _ _ | with_reducible refine below_drew ?_ | with_reducible refine below_drewN ?_ _ | with_reducible refine below_alloc ?_ (Nat.le_refl _) _ | with_reducible refine Below.setCell ?_ (by first | exact Nat.le_refl _ | (simp only []; omega)) _ | with_reducible assumption)))
          | (refine bodyPost_ret (v := .tuple #[.agg #[.int .u8 0, .int .u16 0, .bool false, .int .u8 0, .int .u8 0, .int .u32 0, .int .u32 0, .slice none 0 0, .slice none 0 0], .int .i64 4]) ?_ rfl (rdPost_no 4 (HR.out.trans ?_) (by omega) ?_); (focus (simp [results, Try.results97, go_sem]; done)); (focus (rw [H1]; repeat' split; all_goals first | rfl | omega)); (repeat (first | with_reducible exact Below.refl _ _ | with_reducible refine below_drew ?_ | with_reducible refine below_drewN ?_ _ | with_reducible refine below_alloc ?_ (Nat.le_refl _) _ | with_reducible refine Below.setCell ?_ (by first | exact Nat.le_refl _ | (simp only []; omega)) _ | with_reducible assumption)))
          | (refine bodyPost_ret (v := .tuple #[.agg #[.int .u8 0, .int .u16 0, .bool false, .int .u8 0, .int .u8 0, .int .u32 0, .int .u32 0, .slice none 0 0, .slice none 0 0], .int .i64 6]) ?_ rfl (rdPost_no 6 (HR.out.trans ?_) (by omega) ?_); (focus (simp [results, Try.results97, go_sem]; done)); (focus (rw [H1]; repeat' split; all_goals first | rfl | omega)); (repeat (first | with_reducible exact Below.refl _ _ | with_reducible refine below_drew ?_ | with_reducible refine below_drewN ?_ _ | with_reducible refine below_alloc ?_ (Nat.le_refl _) _ | with_reducible refine Below.setCell ?_ (by first | exact Nat.le_refl _ | (simp only []; omega)) _ | with_reducible assumption)))
          | (exfalso; apply H0.out; rw [H1]; repeat' split; all_goals first | rfl | omega)
      | false =>
        have hX' : g ≤ (n : Int) := by
          rcases Int.lt_or_le (n : Int) g with hy | hy
          · exact absurd ⟨rfl, hy⟩ hX
          · exact hy
        clear hX
        go_enter Try.func97, Try.ntmps97
        go_wp2_with (go_at_call 55; ((with_reducible refine (rget16_any (some ⟨b, off, none⟩) n c l 2 _ hb1).mono ?_); rintro e w2 ⟨rfl, ⟨⟨d2, rfl⟩⟩⟩))
        all_goals have H1 := HE.out
        all_goals simp only [bne_iff_ne, ne_eq, bne_eq_false_iff_eq, Bool.not_eq_true', Bool.not_eq_false'] at *
        all_goals first
          | (refine bodyPost_ret (v := .tuple #[.agg #[.int .u8 0, .int .u16 0, .bool false, .int .u8 0, .int .u8 0, .int .u32 0, .int .u32 0, .slice none 0 0, .slice none 0 0], .int .i64 3]) ?_ rfl (rdPost_no 3 (HR.out.trans ?_) (by omega) ?_); (focus (simp [results, Try.results97, go_sem]; done)); (focus (rw [H1]; repeat' split; all_goals first | rfl | omega)); (repeat (first | with_reducible exact Below.refl _ _ | with_reducible refine below_drew ?_ | with_reducible refine below_drewN ?_ _ | with_reducible refine below_alloc ?_ (Nat.le_refl _) _ | with_reducible refine Below.setCell ?_ (by first | exact Nat.le_refl _ | (simp only []; omega)) _ | with_reducible assumption)))
          | (refine bodyPost_ret (v := .tuple #[.agg #[.int .u8 0, .int .u16 0, .bool false, .int .u8 0, .int .u8 0, .int .u32 0, .int .u32 0, .slice none 0 0, .slice none 0 0], .int .i64 4]) ?_ rfl (rdPost_no 4 (HR.out.trans ?_) (by omega) ?_); (focus (simp [results, Try.results97, go_sem]; done)); (focus (rw [H1]; repeat' split; all_goals first | rfl | omega)); (repeat (first | with_reducible exact Below.refl _ _ | with_reducible refine below_drew ?_ | with_reducible refine below_drewN ?_ _ | with_reducible refine below_alloc ?_ (Nat.le_refl _) _ | with_reducible refine Below.setCell ?_ (by first | exact Nat.le_refl _ | (simp only []; omega)) _ | with_reducible assumption)))
          | (refine bodyPost_ret (v := .tuple #[.agg #[.int .u8 0, .int .u16 0, .bool false, .int .u8 0, .int .u8 0, .int .u32 0, .int .u32 0, .slice none 0 0, .slice none 0 0], .int .i64 6]) ?_ rfl (rdPost_no 6 (HR.out.trans ?_) (by omega) ?_); (focus (simp [results, Try.results97, go_sem]; done)); (focus (rw [H1]; repeat' split; all_goals first | rfl | omega)); (repeat (first | with_reducible exact Below.refl _ _ | with_reducible refine below_drew ?_ | with_reducible refine below_drewN ?_ _ | with_reducible refine below_alloc ?_ (Nat.le_refl _) _ | with_reducible refine Below.setCell ?_ (by first | exact Nat.le_refl _ | (simp only []; omega)) _ | with_reducible assumption)))
          | (exfalso; apply H0.out; rw [H1]; repeat' split; all_goals first | rfl | omega)
end Go.Proofs.Ytjhpmeagopdaiaa

namespace Go.Proofs.Ytjhpmeagopdaiaa
open Go.RowKit
set_option linter.unusedVariables false
set_option linter.unusedSimpArgs false
set_option linter.unusedSimpArgs false
set_option maxHeartbeats 8000000
set_option maxRecDepth 100000

def isP (B : Nat) : World → Value → Prop := fun W v => ∃ g, v = .pointer (some ⟨g, 0, none⟩) ∧ B ≤ g ∧ Blk W g #[.int .u8 0, .int .u16 0, .bool false, .int .u8 0, .int .u8 0, .int .u32 0, .int .u32 0, .slice none 0 0, .slice none 0 0] 26
theorem st_isP {B : Nat} : ∀ w w' v, isP B w v → Below w.heap.size w w' → isP B w' v := fun _ _ _ ⟨g, e, h, k⟩ hb => ⟨g, e, h, k.below hb⟩
theorem goes_isP {B : Nat} {W : World} (h : B ≤ W.heap.size) : OpGoes Try.prog (fun v w' => (Kd.p (isP B)).holds w' v ∧ Below W.heap.size W w') (.ok (.value (.pointer (some ⟨W.heap.size, 0, none⟩))) (W.alloc (.cells #[.int .u8 0, .int .u16 0, .bool false, .int .u8 0, .int .u8 0, .int .u32 0, .int .u32 0, .slice none 0 0, .slice none 0 0] 26))) :=
  ⟨⟨_, rfl, h, blk_new W _ _ _ rfl⟩, (Below.refl _ W).alloc (Nat.le_refl _) _⟩
theorem rread_ok (A : Option Addr) (n c : Nat) (l : List UInt8) (q : Bool) (w : World) (hb : Bs w A n c l) (hE0 : lenE q l = 0) :
    Calls Try.prog 97 #[.slice A n c, .bool q] w (RdPost w q l) := by
  have hlen := hb.len
  have hmax := hb.max
  have hcap := hb.cap
  obtain ⟨i8, hi8, -, hs8, -⟩ := info_parts info_u8
  obtain ⟨f1, f2, f3, f4, f5, f6, f7, f8, f9⟩ := len_facts hE0
  obtain ⟨b, off, rfl⟩ := hb.some_ (by omega)
  have b0 := bt_lo l 0
  have b0' := bt_hi l 0
  obtain ⟨h, hh⟩ : ∃ h, hdOf l = h := ⟨_, rfl⟩
  have hh' : bt l 0 % 16 * 4 = h := by rw [← hh]; unfold hdOf; omega
  obtain ⟨g, hg⟩ : ∃ g, get16 l 2 = g := ⟨_, rfl⟩
  obtain ⟨m, hm⟩ : ∃ m, alOf l = m := ⟨_, rfl⟩
  have ham : m = if (n : Int) < g then (n : Int) else g := by rw [← hm]; unfold alOf; rw [hg, hlen]
  have g0 : 0 ≤ g := by rw [← hg]; exact get16_lo l 2
  have g1 : g ≤ 65535 := by rw [← hg]; exact get16_hi l 2
  obtain ⟨f, hf⟩ : ∃ f, get16 l 6 = f := ⟨_, rfl⟩
  have e0 : 0 ≤ f := by rw [← hf]; exact get16_lo l 6
  have e1 : f ≤ 65535 := by rw [← hf]; exact get16_hi l 6
  obtain ⟨s, hs⟩ : ∃ s, csum (l.take h.toNat) = s := ⟨_, rfl⟩
  rw [hh] at f3 f4 f5 f7 f8
  rw [hm] at f5 f6
  rw [hg] at f8 f9
  rw [hlen] at f1 f4 f6 f9
  have hb1 := hb.alloc (.cells #[.int .u8 0, .int .u16 0, .bool false, .int .u8 0, .int .u8 0, .int .u32 0, .int .u32 0, .slice none 0 0, .slice none 0 0] 26)
  have c0 := hb1.at_ (j := 0) (by omega)
  rw [Nat.add_zero] at c0
  have hn0 : (0 : Int) < n := by omega
  obtain ⟨x, hx⟩ : ∃ x, bt l 0 / 16 = x := ⟨_, rfl⟩
  have hx4 : (x != 4) = false := by simp; omega
  have HE : Hid (rdE q l = if s ≠ 0 then 5 else if f % 16384 ≠ 0 then 7 else if 32768 ≤ f then 4 else if q = true ∧ m - h < 8 then 3 else 0) := by
    unfold Hid rdE
    rw [if_neg (by omega), hh, hs, hf, hm]
  have hcutA : ∀ W, (Instr.slice 24 (.slice (some ⟨b, off, none⟩) n c) none (some (.int .i64 h)) none).run Try.prog W = .ok (.slice (some ⟨b, off, none⟩) h.toNat c) W := fun W => by
    rw [cut_h Try.underlying24 hi8 hs8 (some ⟨b, off, none⟩) n c .i64 h (by omega) (by omega) W]
    simp [Addr.add]
  have hbA := fun (W : World) (k : Bs W (some ⟨b, off, none⟩) n c l) => k.takeN (k := h.toNat) (by omega)
  have hsd : ∀ (W : World) (d : Nat) (p : Addr) (v : Value), (W.drewN d).setCell p v = (W.setCell p v).drewN d := fun _ _ _ _ => rfl
  have HH := Lib.hid hh
  have HM := Lib.hid hm
  have HF := Lib.hid hf
  have HAM := Lib.hid ham
  have h20 : ¬ (n : Int) < 20 := by omega
  have hgb : 0 ≤ h := by omega
  have HL := Lib.hid hlen
  clear hh hm ham f1 f2 f7 hlen
  by_cases hng : (n : Int) < g
  · have hq : q = true := by
      cases q with
      | true => rfl
      | false => have := f9 rfl; omega
    subst hq
    have hmn : m = n := by rw [HAM.out, if_pos hng]
    subst hmn
    clear f9 f8
    go_enter Try.func97, Try.ntmps97
    go_wp2_with (first
      | (go_at_call 55; ((with_reducible refine (rget16_any (some ⟨b, off, none⟩) n c l 2 _ hb1).mono ?_); rintro e w2 ⟨rfl, ⟨⟨d2, rfl⟩⟩⟩))
      | (go_at_call 40; ((with_reducible refine (rgood_any (some ⟨b, off, none⟩) h.toNat c (l.take h.toNat) (by omega) _ (hbA _ (hb1.drewN _))).mono ?_); rintro e w3 ⟨rfl, hB3⟩); have R3 := ((blk_new w #[.int .u8 0, .int .u16 0, .bool false, .int .u8 0, .int .u8 0, .int .u32 0, .int .u32 0, .slice none 0 0, .slice none 0 0] 26 _ rfl).drewN d2).below hB3; have b3 := (hb1.drewN d2).below hB3; have T3 := below_then (below_drewN ((Below.refl _ w).alloc (Nat.le_refl _) _) d2) hB3; (obtain ⟨wf, hwf, S⟩ := store9 R3 (.int .u8 0) (.int .u16 0) (.bool false) (.int .u8 0) (.int .u8 0) (.int .u32 0) (.int .u32 0) (.slice none 0 0) (.slice none 0 0)); have pf := S.blk.cell; have rc := R3.cell; have TF := S.bel T3 (Nat.le_refl _))
      | (go_at_call 55; ((with_reducible refine (rget16_any (some ⟨b, off, none⟩) n c l 6 _ b3).mono ?_); rintro e w4 ⟨rfl, ⟨⟨d4, rfl⟩⟩⟩)))
    all_goals have H1 := HE.out
    all_goals simp only [Bool.not_eq_true', Bool.not_eq_false', beq_iff_eq, beq_eq_false_iff_ne, bne_iff_ne, ne_eq, bne_eq_false_iff_eq, true_and, false_and, Bool.false_eq_true, if_false] at *
    all_goals first
      | (refine bodyPost_ret (v := .tuple #[.agg #[.int .u8 0, .int .u16 0, .bool false, .int .u8 0, .int .u8 0, .int .u32 0, .int .u32 0, .slice none 0 0, .slice none 0 0], .int .i64 5]) ?_ rfl (rdPost_no 5 (H1.trans ?_) (by omega) ?_); (focus (simp [results, Try.results97, go_sem, pf]; done)); (focus (repeat' split; all_goals first | rfl | omega)); (first | exact TF | exact below_drewN TF _))
      | (refine bodyPost_ret (v := .tuple #[.agg #[.int .u8 0, .int .u16 0, .bool false, .int .u8 0, .int .u8 0, .int .u32 0, .int .u32 0, .slice none 0 0, .slice none 0 0], .int .i64 7]) ?_ rfl (rdPost_no 7 (H1.trans ?_) (by omega) ?_); (focus (simp [results, Try.results97, go_sem, pf]; done)); (focus (repeat' split; all_goals first | rfl | omega)); (first | exact TF | exact below_drewN TF _))
      | (refine bodyPost_ret (v := .tuple #[.agg #[.int .u8 0, .int .u16 0, .bool false, .int .u8 0, .int .u8 0, .int .u32 0, .int .u32 0, .slice none 0 0, .slice none 0 0], .int .i64 4]) ?_ rfl (rdPost_no 4 (H1.trans ?_) (by omega) ?_); (focus (simp [results, Try.results97, go_sem, pf]; done)); (focus (repeat' split; all_goals first | rfl | omega)); (first | exact TF | exact below_drewN TF _))
      | (refine bodyPost_ret (v := .tuple #[.agg #[.int .u8 0, .int .u16 0, .bool false, .int .u8 0, .int .u8 0, .int .u32 0, .int .u32 0, .slice none 0 0, .slice none 0 0], .int .i64 3]) ?_ rfl (rdPost_no 3 (H1.trans ?_) (by omega) ?_); (focus (simp [results, Try.results97, go_sem, pf]; done)); (focus (repeat' split; all_goals first | rfl | omega)); (first | exact TF | exact below_drewN TF _))
      | skip
    have hE : rdE true l = 0 := by
      rw [H1]
      repeat' split
      all_goals first | rfl | omega
    have HE0 := Lib.hid hE
    have b4 := b3.drewN d4
    have R4 := R3.drewN d4
    have T4 := below_drewN T3 d4
    have hrl := R4.lt
    have hcutB : ∀ W, (Instr.slice 24 (.slice (some ⟨b, off, none⟩) n c) (some (.int .i64 20)) (some (.int .i64 h)) none).run Try.prog W = _ := fun W => cut_lh Try.underlying24 hi8 hs8 (some ⟨b, off, none⟩) n c .i64 .i64 20 h (by omega) (by omega) (by omega) W
    obtain ⟨A2, n2, c2, eA, en, ec, hbB⟩ := hb.cutE (lo := 20) (hi := h.toNat) (by omega) (by omega)
    simp only [show (20 : Int).toNat = 20 from rfl, eA, en, ec] at hcutB
    clear eA en ec
    have hcutC : ∀ W, (Instr.slice 24 (.slice (some ⟨b, off, none⟩) n c) (some (.int .i64 h)) (some (.int .i64 (n : Int))) none).run Try.prog W = _ := fun W => cut_lh Try.underlying24 hi8 hs8 (some ⟨b, off, none⟩) n c .i64 .i64 h (n : Int) (by omega) (by omega) (by omega) W
    obtain ⟨A3, n3, c3, eA, en, ec, hbC⟩ := hb.cutE (lo := h.toNat) (hi := ((n : Int)).toNat) (by omega) (by omega)
    simp only [eA, en, ec] at hcutC
    clear eA en ec
    have m2 := hbB.max
    have m3 := hbC.max
    have x1 : (1 : Int) < n := by omega
    have x8 : (8 : Int) < n := by omega
    have x9 : (9 : Int) < n := by omega
    obtain ⟨k, hk⟩ : ∃ k, decide (16384 ≤ f) = k := ⟨_, rfl⟩
    have HK : Hid ((get16 l 6 != 0) = k) := by
      unfold Hid
      rw [HF.out, ← hk]
      by_cases z : f = 0
      · rw [z]; rfl
      · rw [show (f != 0) = true from by simpa using z]; exact (decide_eq_true (by omega)).symm
    generalize w3.drewN d4 = w4 at *
    clear hE H1 hs hf hcutA hbA hwf S pf rc TF R3 T3 b3 hB3 hb1 c0 hsd hx4
    refine region_txt 19 (by kernel_rfl) (by kernel_rfl) ?_; (iterate 19 (first | (apply ObsK.skip (by rfl)) | (apply ObsK.v (by rfl); (intro wo hT; (repeat (first | (intro v hv; ((skip))) | (intro _ _ k; try have hcv := cv k))); (have bo := b4.below hT; have c1 := bo.at_ (j := 1) (by omega); have c8 := bo.at_ (j := 8) (by omega); have c9 := bo.at_ (j := 9) (by omega); have zo : w.heap.size + 1 ≤ wo.heap.size := Nat.le_trans hrl hT.size); refine Goes.mk ?_; go_simp; first | exact goes_v | exact goes_b (by assumption) | exact goes_isP zo | (refine goes_enter ?_; first | (go_at_call 55; ((with_reducible refine (rget16_any (some ⟨b, off, none⟩) n c l 4 wo bo).mono ?_); rintro e w5 ⟨rfl, hD5⟩); exact ret_v hD5.bel) | (go_at_call 41; ((with_reducible refine (rget32_any (some ⟨b, off, none⟩) n c l 12 wo bo).mono ?_); rintro e w5 ⟨rfl, hD5⟩); exact ret_v hD5.bel) | (go_at_call 41; ((with_reducible refine (rget32_any (some ⟨b, off, none⟩) n c l 16 wo bo).mono ?_); rintro e w5 ⟨rfl, hD5⟩); exact ret_v hD5.bel)))) | (apply ObsK.b (by rfl); (intro wo hT; (repeat (first | (intro v hv; ((skip))) | (intro _ _ k; try have hcv := cv k))); (have bo := b4.below hT; have c1 := bo.at_ (j := 1) (by omega); have c8 := bo.at_ (j := 8) (by omega); have c9 := bo.at_ (j := 9) (by omega); have zo : w.heap.size + 1 ≤ wo.heap.size := Nat.le_trans hrl hT.size); refine Goes.mk ?_; go_simp; first | exact goes_v | exact goes_b (by assumption) | exact goes_isP zo | (refine goes_enter ?_; first | (go_at_call 55; ((with_reducible refine (rget16_any (some ⟨b, off, none⟩) n c l 4 wo bo).mono ?_); rintro e w5 ⟨rfl, hD5⟩); exact ret_v hD5.bel) | (go_at_call 41; ((with_reducible refine (rget32_any (some ⟨b, off, none⟩) n c l 12 wo bo).mono ?_); rintro e w5 ⟨rfl, hD5⟩); exact ret_v hD5.bel) | (go_at_call 41; ((with_reducible refine (rget32_any (some ⟨b, off, none⟩) n c l 16 wo bo).mono ?_); rintro e w5 ⟨rfl, hD5⟩); exact ret_v hD5.bel)))) | (apply ObsK.p (q := isP (w.heap.size + 1)) (by rfl) st_isP; (intro wo hT; (repeat (first | (intro v hv; ((skip))) | (intro _ _ k; try have hcv := cv k))); (have bo := b4.below hT; have c1 := bo.at_ (j := 1) (by omega); have c8 := bo.at_ (j := 8) (by omega); have c9 := bo.at_ (j := 9) (by omega); have zo : w.heap.size + 1 ≤ wo.heap.size := Nat.le_trans hrl hT.size); refine Goes.mk ?_; go_simp; first | exact goes_v | exact goes_b (by assumption) | exact goes_isP zo | (refine goes_enter ?_; first | (go_at_call 55; ((with_reducible refine (rget16_any (some ⟨b, off, none⟩) n c l 4 wo bo).mono ?_); rintro e w5 ⟨rfl, hD5⟩); exact ret_v hD5.bel) | (go_at_call 41; ((with_reducible refine (rget32_any (some ⟨b, off, none⟩) n c l 12 wo bo).mono ?_); rintro e w5 ⟨rfl, hD5⟩); exact ret_v hD5.bel) | (go_at_call 41; ((with_reducible refine (rget32_any (some ⟨b, off, none⟩) n c l 16 wo bo).mono ?_); rintro e w5 ⟨rfl, hD5⟩); exact ret_v hD5.bel)))))); refine ObsK.nil ?_; intro wz hBz; simp only [finOn, List.drop_succ_cons, List.drop_zero, List.drop_nil]
    intro vp hvp
    obtain ⟨gp, rfl, gB, G⟩ := hvp
    go_simp
    obtain ⟨wg, hwg, SG⟩ := store9 G (.int .u8 (bt l 1)) (.int .u16 (get16 l 4)) (.bool k) (.int .u8 (bt l 8)) (.int .u8 (bt l 9)) (.int .u32 (get32 l 12)) (.int .u32 (get32 l 16)) (.slice none 0 0) (.slice none 0 0)
    have gc := G.cell
    have R5 := SG.other (by omega) (R4.below hBz)
    have T5 := SG.bel (below_then T4 hBz) (by omega)
    have G5 := SG.blk
    go_wp2_with fail
    clear hwg SG gc G R4 T4 b4 hBz hk
    refine region_txt 5 (by kernel_rfl) (by kernel_rfl) ?_; (iterate 5 (first | (apply ObsK.skip (by rfl)) | (apply ObsK.v (by rfl); (intro wo hT; (repeat (first | (intro _ _ k; try have hcv := cv k))); (have gc := (G5.below hT).cell); refine Goes.mk ?_; go_simp; first | exact goes_v | exact goes_b (by assumption) | (refine goes_enter ?_; first | fail))) | (apply ObsK.b (by rfl); (intro wo hT; (repeat (first | (intro _ _ k; try have hcv := cv k))); (have gc := (G5.below hT).cell); refine Goes.mk ?_; go_simp; first | exact goes_v | exact goes_b (by assumption) | (refine goes_enter ?_; first | fail))))); refine ObsK.nil ?_; intro wz hBz; simp only [finOn, List.drop_succ_cons, List.drop_zero, List.drop_nil]
    go_simp
    have R6 := R5.below hBz
    have G6 := G5.below hBz
    have T6 := below_then T5 hBz
    have gl := G6.lt
    have rl := R6.lt
    have fc6 := G6.cell.2
    clear R5 G5 T5 hBz
    go_wp2_with (first
      | (at_builtin; refine wpList_append_bs (w0 := wz) _ rfl _ _ _ rfl wz.heap.size 5 Try.underlying24 info_u8 none 0 0 [] rfl (own_nil _ _ _) A2 n2 c2 _ rfl (hbB.below T6) (Below.refl _ _) (by omega) (by first | exact Nat.le_refl _ | exact Below.size (Below.refl _ _) | omega | (simp <;> omega)) ?_; intro A7 n7 c7 w7 ho7 hB7 _ hz7; have u7 : n7 = n2 := (by have := ho7.len; have := hbB.len; simp at *; omega); subst u7; have g7 := (G6.below hB7).cell))
    have a7 := ho7.ge
    have k7 := ho7.bs
    have G8 : Blk (w7.setCell ⟨gp, 7, none⟩ (.slice A7 n7 c7)) gp #[.int .u8 (bt l 1), .int .u16 (get16 l 4), .bool k, .int .u8 (bt l 8), .int .u8 (bt l 9), .int .u32 (get32 l 12), .int .u32 (get32 l 16), .slice A7 n7 c7, .slice none 0 0] 26 := by
      have := (G6.below hB7).set_ 7 (.slice A7 n7 c7)
      simp only [List.setIfInBounds_toArray, List.set_cons_zero, List.set_cons_succ] at this
      exact this
    have R8 := (R6.below hB7).far ⟨gp, 7, none⟩ (by simp; omega) (.slice A7 n7 c7)
    have T8 := (below_then T6 hB7).setCell (p := ⟨gp, 7, none⟩) (by simp; omega) (.slice A7 n7 c7)
    have k8 := k7.away ⟨gp, 7, none⟩ (fun a e => by have := a7 a e; simp; omega) (.slice A7 n7 c7)
    have a8 : ∀ a, A7 = some a → gp < a.block := fun a e => by have := a7 a e; omega
    generalize w7.setCell ⟨gp, 7, none⟩ (.slice A7 n7 c7) = w8 at *
    clear g7 fc6 ho7 hB7 k7 a7 G6 R6 T6 gl rl hz7
    refine region_txt 6 (by kernel_rfl) (by kernel_rfl) ?_; (iterate 6 (first | (apply ObsK.skip (by rfl)) | (apply ObsK.v (by rfl); (intro wo hT; (repeat (first | (intro _ _ k; try have hcv := cv k))); (have gc := (G8.below hT).cell); refine Goes.mk ?_; go_simp; first | exact goes_v | exact goes_b (by assumption) | (refine goes_enter ?_; first | fail))) | (apply ObsK.b (by rfl); (intro wo hT; (repeat (first | (intro _ _ k; try have hcv := cv k))); (have gc := (G8.below hT).cell); refine Goes.mk ?_; go_simp; first | exact goes_v | exact goes_b (by assumption) | (refine goes_enter ?_; first | fail))))); refine ObsK.nil ?_; intro wz hBz; simp only [finOn, List.drop_succ_cons, List.drop_zero, List.drop_nil]
    go_simp
    have R9 := R8.below hBz
    have G9 := G8.below hBz
    have T9 := below_then T8 hBz
    have k9 := k8.below hBz
    have gl := G9.lt
    have rl := R9.lt
    have fc9 := G9.cell.2
    clear R8 G8 T8 hBz k8
    go_wp2_with (first
      | (at_builtin; refine wpList_append_bs (w0 := wz) _ rfl _ _ _ rfl wz.heap.size 5 Try.underlying24 info_u8 none 0 0 [] rfl (own_nil _ _ _) A3 n3 c3 _ rfl (hbC.below T9) (Below.refl _ _) (by omega) (by first | exact Nat.le_refl _ | exact Below.size (Below.refl _ _) | omega | (simp <;> omega)) ?_; intro A10 n10 c10 w10 ho10 hB10 _ hz10; have u10 : n10 = n3 := (by have := ho10.len; have := hbC.len; simp at *; omega); subst u10; have g10 := (G9.below hB10).cell; have r10 := (R9.below hB10).cell; (obtain ⟨w11, hw11, S11⟩ := store1 (G9.below hB10) 8 (.slice A10 n10 c10)); have g11 := S11.blk.cell; have R11 := S11.other (by omega) (R9.below hB10); have r11 := R11.cell; (obtain ⟨w12, hw12, S12⟩ := store9 R11 (.int .u8 (bt l 1)) (.int .u16 (get16 l 4)) (.bool k) (.int .u8 (bt l 8)) (.int .u8 (bt l 9)) (.int .u32 (get32 l 12)) (.int .u32 (get32 l 16)) (.slice A7 n7 c7) (.slice A10 n10 c10))))
    have a10 := ho10.ge
    have k10 := ho10.bs
    have T12 := S12.bel (S11.bel (below_then T9 hB10) (by omega)) (Nat.le_refl _)
    have K10 := S12.bs (S11.bs k10 (fun a e => by have := a10 a e; omega)) (fun a e => by have := a10 a e; omega)
    have K9 := S12.bs (S11.bs (k9.below hB10) (fun a e => by have := a8 a e; omega)) (fun a e => by have := a8 a e; omega)
    have pf := S12.blk.cell
    have hR : rdPk true l = rdP l := by unfold rdPk; rw [if_pos HE0.out]
    have e1 : (rdP l).keep = k := HK.out
    have e2 : (rdP l).opt = List.drop 20 (List.take h.toNat l) := by rw [← HH.out]; rfl
    have e3 : (rdP l).dat = List.drop h.toNat (List.take ((n : Int)).toNat l) := by rw [← HH.out, ← HM.out]; rfl
    refine bodyPost_ret (v := .tuple #[.agg #[.int .u8 (bt l 1), .int .u16 (get16 l 4), .bool k, .int .u8 (bt l 8), .int .u8 (bt l 9), .int .u32 (get32 l 12), .int .u32 (get32 l 16), .slice A7 n7 c7, .slice A10 n10 c10], .int .i64 0]) (by simp [results, Try.results97, go_sem, pf]) rfl
      ⟨A7, n7, c7, A10, n10, c10, by rw [hR, HE0.out, e1]; rfl, by rw [hR, e2]; exact K9, by rw [hR, e3]; exact K10, fun a e => by have := a8 a e; omega, fun a e => by have := a10 a e; omega, T12⟩
  · have hmg : m = g := by rw [HAM.out, if_neg hng]
    rw [hmg] at f5 f6 HE HM
    have hgn : g ≤ (n : Int) := by omega
    clear hmg HAM hng f8 f9
    cases q with
    | true =>
      go_enter Try.func97, Try.ntmps97
      go_wp2_with (first
        | (go_at_call 55; ((with_reducible refine (rget16_any (some ⟨b, off, none⟩) n c l 2 _ hb1).mono ?_); rintro e w2 ⟨rfl, ⟨⟨d2, rfl⟩⟩⟩))
        | (go_at_call 40; ((with_reducible refine (rgood_any (some ⟨b, off, none⟩) h.toNat c (l.take h.toNat) (by omega) _ (hbA _ (hb1.drewN _))).mono ?_); rintro e w3 ⟨rfl, hB3⟩); have R3 := ((blk_new w #[.int .u8 0, .int .u16 0, .bool false, .int .u8 0, .int .u8 0, .int .u32 0, .int .u32 0, .slice none 0 0, .slice none 0 0] 26 _ rfl).drewN d2).below hB3; have b3 := (hb1.drewN d2).below hB3; have T3 := below_then (below_drewN ((Below.refl _ w).alloc (Nat.le_refl _) _) d2) hB3; (obtain ⟨wf, hwf, S⟩ := store9 R3 (.int .u8 0) (.int .u16 0) (.bool false) (.int .u8 0) (.int .u8 0) (.int .u32 0) (.int .u32 0) (.slice none 0 0) (.slice none 0 0)); have pf := S.blk.cell; have rc := R3.cell; have TF := S.bel T3 (Nat.le_refl _))
        | (go_at_call 55; ((with_reducible refine (rget16_any (some ⟨b, off, none⟩) n c l 6 _ b3).mono ?_); rintro e w4 ⟨rfl, ⟨⟨d4, rfl⟩⟩⟩)))
      all_goals have H1 := HE.out
      all_goals simp only [Bool.not_eq_true', Bool.not_eq_false', beq_iff_eq, beq_eq_false_iff_ne, bne_iff_ne, ne_eq, bne_eq_false_iff_eq, true_and, false_and, Bool.false_eq_true, if_false] at *
      all_goals first
        | (refine bodyPost_ret (v := .tuple #[.agg #[.int .u8 0, .int .u16 0, .bool false, .int .u8 0, .int .u8 0, .int .u32 0, .int .u32 0, .slice none 0 0, .slice none 0 0], .int .i64 5]) ?_ rfl (rdPost_no 5 (H1.trans ?_) (by omega) ?_); (focus (simp [results, Try.results97, go_sem, pf]; done)); (focus (repeat' split; all_goals first | rfl | omega)); (first | exact TF | exact below_drewN TF _))
        | (refine bodyPost_ret (v := .tuple #[.agg #[.int .u8 0, .int .u16 0, .bool false, .int .u8 0, .int .u8 0, .int .u32 0, .int .u32 0, .slice none 0 0, .slice none 0 0], .int .i64 7]) ?_ rfl (rdPost_no 7 (H1.trans ?_) (by omega) ?_); (focus (simp [results, Try.results97, go_sem, pf]; done)); (focus (repeat' split; all_goals first | rfl | omega)); (first | exact TF | exact below_drewN TF _))
        | (refine bodyPost_ret (v := .tuple #[.agg #[.int .u8 0, .int .u16 0, .bool false, .int .u8 0, .int .u8 0, .int .u32 0, .int .u32 0, .slice none 0 0, .slice none 0 0], .int .i64 4]) ?_ rfl (rdPost_no 4 (H1.trans ?_) (by omega) ?_); (focus (simp [results, Try.results97, go_sem, pf]; done)); (focus (repeat' split; all_goals first | rfl | omega)); (first | exact TF | exact below_drewN TF _))
        | (refine bodyPost_ret (v := .tuple #[.agg #[.int .u8 0, .int .u16 0, .bool false, .int .u8 0, .int .u8 0, .int .u32 0, .int .u32 0, .slice none 0 0, .slice none 0 0], .int .i64 3]) ?_ rfl (rdPost_no 3 (H1.trans ?_) (by omega) ?_); (focus (simp [results, Try.results97, go_sem, pf]; done)); (focus (repeat' split; all_goals first | rfl | omega)); (first | exact TF | exact below_drewN TF _))
        | skip
      have hE : rdE true l = 0 := by
        rw [H1]
        repeat' split
        all_goals first | rfl | omega
      have HE0 := Lib.hid hE
      have b4 := b3.drewN d4
      have R4 := R3.drewN d4
      have T4 := below_drewN T3 d4
      have hrl := R4.lt
      have hcutB : ∀ W, (Instr.slice 24 (.slice (some ⟨b, off, none⟩) n c) (some (.int .i64 20)) (some (.int .i64 h)) none).run Try.prog W = _ := fun W => cut_lh Try.underlying24 hi8 hs8 (some ⟨b, off, none⟩) n c .i64 .i64 20 h (by omega) (by omega) (by omega) W
      obtain ⟨A2, n2, c2, eA, en, ec, hbB⟩ := hb.cutE (lo := 20) (hi := h.toNat) (by omega) (by omega)
      simp only [show (20 : Int).toNat = 20 from rfl, eA, en, ec] at hcutB
      clear eA en ec
      have hcutC : ∀ W, (Instr.slice 24 (.slice (some ⟨b, off, none⟩) n c) (some (.int .i64 h)) (some (.int .i64 g)) none).run Try.prog W = _ := fun W => cut_lh Try.underlying24 hi8 hs8 (some ⟨b, off, none⟩) n c .i64 .i64 h g (by omega) (by omega) (by omega) W
      obtain ⟨A3, n3, c3, eA, en, ec, hbC⟩ := hb.cutE (lo := h.toNat) (hi := (g).toNat) (by omega) (by omega)
      simp only [eA, en, ec] at hcutC
      clear eA en ec
      have m2 := hbB.max
      have m3 := hbC.max
      have x1 : (1 : Int) < n := by omega
      have x8 : (8 : Int) < n := by omega
      have x9 : (9 : Int) < n := by omega
      obtain ⟨k, hk⟩ : ∃ k, decide (16384 ≤ f) = k := ⟨_, rfl⟩
      have HK : Hid ((get16 l 6 != 0) = k) := by
        unfold Hid
        rw [HF.out, ← hk]
        by_cases z : f = 0
        · rw [z]; rfl
        · rw [show (f != 0) = true from by simpa using z]; exact (decide_eq_true (by omega)).symm
      generalize w3.drewN d4 = w4 at *
      clear hE H1 hs hf hcutA hbA hwf S pf rc TF R3 T3 b3 hB3 hb1 c0 hsd hx4
      refine region_txt 19 (by kernel_rfl) (by kernel_rfl) ?_; (iterate 19 (first | (apply ObsK.skip (by rfl)) | (apply ObsK.v (by rfl); (intro wo hT; (repeat (first | (intro v hv; ((skip))) | (intro _ _ k; try have hcv := cv k))); (have bo := b4.below hT; have c1 := bo.at_ (j := 1) (by omega); have c8 := bo.at_ (j := 8) (by omega); have c9 := bo.at_ (j := 9) (by omega); have zo : w.heap.size + 1 ≤ wo.heap.size := Nat.le_trans hrl hT.size); refine Goes.mk ?_; go_simp; first | exact goes_v | exact goes_b (by assumption) | exact goes_isP zo | (refine goes_enter ?_; first | (go_at_call 55; ((with_reducible refine (rget16_any (some ⟨b, off, none⟩) n c l 4 wo bo).mono ?_); rintro e w5 ⟨rfl, hD5⟩); exact ret_v hD5.bel) | (go_at_call 41; ((with_reducible refine (rget32_any (some ⟨b, off, none⟩) n c l 12 wo bo).mono ?_); rintro e w5 ⟨rfl, hD5⟩); exact ret_v hD5.bel) | (go_at_call 41; ((with_reducible refine (rget32_any (some ⟨b, off, none⟩) n c l 16 wo bo).mono ?_); rintro e w5 ⟨rfl, hD5⟩); exact ret_v hD5.bel)))) | (apply ObsK.b (by rfl); (intro wo hT; (repeat (first | (intro v hv; ((skip))) | (intro _ _ k; try have hcv := cv k))); (have bo := b4.below hT; have c1 := bo.at_ (j := 1) (by omega); have c8 := bo.at_ (j := 8) (by omega); have c9 := bo.at_ (j := 9) (by omega); have zo : w.heap.size + 1 ≤ wo.heap.size := Nat.le_trans hrl hT.size); refine Goes.mk ?_; go_simp; first | exact goes_v | exact goes_b (by assumption) | exact goes_isP zo | (refine goes_enter ?_; first | (go_at_call 55; ((with_reducible refine (rget16_any (some ⟨b, off, none⟩) n c l 4 wo bo).mono ?_); rintro e w5 ⟨rfl, hD5⟩); exact ret_v hD5.bel) | (go_at_call 41; ((with_reducible refine (rget32_any (some ⟨b, off, none⟩) n c l 12 wo bo).mono ?_); rintro e w5 ⟨rfl, hD5⟩); exact ret_v hD5.bel) | (go_at_call 41; ((with_reducible refine (rget32_any (some ⟨b, off, none⟩) n c l 16 wo bo).mono ?_); rintro e w5 ⟨rfl, hD5⟩); exact ret_v hD5.bel)))) | (apply ObsK.p (q := isP (w.heap.size + 1)) (by rfl) st_isP; (intro wo hT; (repeat (first | (intro v hv; ((skip))) | (intro _ _ k; try have hcv := cv k))); (have bo := b4.below hT; have c1 := bo.at_ (j := 1) (by omega); have c8 := bo.at_ (j := 8) (by omega); have c9 := bo.at_ (j := 9) (by omega); have zo : w.heap.size + 1 ≤ wo.heap.size := Nat.le_trans hrl hT.size); refine Goes.mk ?_; go_simp; first | exact goes_v | exact goes_b (by assumption) | exact goes_isP zo | (refine goes_enter ?_; first | (go_at_call 55; ((with_reducible refine (rget16_any (some ⟨b, off, none⟩) n c l 4 wo bo).mono ?_); rintro e w5 ⟨rfl, hD5⟩); exact ret_v hD5.bel) | (go_at_call 41; ((with_reducible refine (rget32_any (some ⟨b, off, none⟩) n c l 12 wo bo).mono ?_); rintro e w5 ⟨rfl, hD5⟩); exact ret_v hD5.bel) | (go_at_call 41; ((with_reducible refine (rget32_any (some ⟨b, off, none⟩) n c l 16 wo bo).mono ?_); rintro e w5 ⟨rfl, hD5⟩); exact ret_v hD5.bel)))))); refine ObsK.nil ?_; intro wz hBz; simp only [finOn, List.drop_succ_cons, List.drop_zero, List.drop_nil]
      intro vp hvp
      obtain ⟨gp, rfl, gB, G⟩ := hvp
      go_simp
      obtain ⟨wg, hwg, SG⟩ := store9 G (.int .u8 (bt l 1)) (.int .u16 (get16 l 4)) (.bool k) (.int .u8 (bt l 8)) (.int .u8 (bt l 9)) (.int .u32 (get32 l 12)) (.int .u32 (get32 l 16)) (.slice none 0 0) (.slice none 0 0)
      have gc := G.cell
      have R5 := SG.other (by omega) (R4.below hBz)
      have T5 := SG.bel (below_then T4 hBz) (by omega)
      have G5 := SG.blk
      go_wp2_with fail
      clear hwg SG gc G R4 T4 b4 hBz hk
      refine region_txt 5 (by kernel_rfl) (by kernel_rfl) ?_; (iterate 5 (first | (apply ObsK.skip (by rfl)) | (apply ObsK.v (by rfl); (intro wo hT; (repeat (first | (intro _ _ k; try have hcv := cv k))); (have gc := (G5.below hT).cell); refine Goes.mk ?_; go_simp; first | exact goes_v | exact goes_b (by assumption) | (refine goes_enter ?_; first | fail))) | (apply ObsK.b (by rfl); (intro wo hT; (repeat (first | (intro _ _ k; try have hcv := cv k))); (have gc := (G5.below hT).cell); refine Goes.mk ?_; go_simp; first | exact goes_v | exact goes_b (by assumption) | (refine goes_enter ?_; first | fail))))); refine ObsK.nil ?_; intro wz hBz; simp only [finOn, List.drop_succ_cons, List.drop_zero, List.drop_nil]
      go_simp
      have R6 := R5.below hBz
      have G6 := G5.below hBz
      have T6 := below_then T5 hBz
      have gl := G6.lt
      have rl := R6.lt
      have fc6 := G6.cell.2
      clear R5 G5 T5 hBz
      go_wp2_with (first
        | (at_builtin; refine wpList_append_bs (w0 := wz) _ rfl _ _ _ rfl wz.heap.size 5 Try.underlying24 info_u8 none 0 0 [] rfl (own_nil _ _ _) A2 n2 c2 _ rfl (hbB.below T6) (Below.refl _ _) (by omega) (by first | exact Nat.le_refl _ | exact Below.size (Below.refl _ _) | omega | (simp <;> omega)) ?_; intro A7 n7 c7 w7 ho7 hB7 _ hz7; have u7 : n7 = n2 := (by have := ho7.len; have := hbB.len; simp at *; omega); subst u7; have g7 := (G6.below hB7).cell))
      have a7 := ho7.ge
      have k7 := ho7.bs
      have G8 : Blk (w7.setCell ⟨gp, 7, none⟩ (.slice A7 n7 c7)) gp #[.int .u8 (bt l 1), .int .u16 (get16 l 4), .bool k, .int .u8 (bt l 8), .int .u8 (bt l 9), .int .u32 (get32 l 12), .int .u32 (get32 l 16), .slice A7 n7 c7, .slice none 0 0] 26 := by
        have := (G6.below hB7).set_ 7 (.slice A7 n7 c7)
        simp only [List.setIfInBounds_toArray, List.set_cons_zero, List.set_cons_succ] at this
        exact this
      have R8 := (R6.below hB7).far ⟨gp, 7, none⟩ (by simp; omega) (.slice A7 n7 c7)
      have T8 := (below_then T6 hB7).setCell (p := ⟨gp, 7, none⟩) (by simp; omega) (.slice A7 n7 c7)
      have k8 := k7.away ⟨gp, 7, none⟩ (fun a e => by have := a7 a e; simp; omega) (.slice A7 n7 c7)
      have a8 : ∀ a, A7 = some a → gp < a.block := fun a e => by have := a7 a e; omega
      generalize w7.setCell ⟨gp, 7, none⟩ (.slice A7 n7 c7) = w8 at *
      clear g7 fc6 ho7 hB7 k7 a7 G6 R6 T6 gl rl hz7
      refine region_txt 6 (by kernel_rfl) (by kernel_rfl) ?_; (iterate 6 (first | (apply ObsK.skip (by rfl)) | (apply ObsK.v (by rfl); (intro wo hT; (repeat (first | (intro _ _ k; try have hcv := cv k))); (have gc := (G8.below hT).cell); refine Goes.mk ?_; go_simp; first | exact goes_v | exact goes_b (by assumption) | (refine goes_enter ?_; first | fail))) | (apply ObsK.b (by rfl); (intro wo hT; (repeat (first | (intro _ _ k; try have hcv := cv k))); (have gc := (G8.below hT).cell); refine Goes.mk ?_; go_simp; first | exact goes_v | exact goes_b (by assumption) | (refine goes_enter ?_; first | fail))))); refine ObsK.nil ?_; intro wz hBz; simp only [finOn, List.drop_succ_cons, List.drop_zero, List.drop_nil]
      go_simp
      have R9 := R8.below hBz
      have G9 := G8.below hBz
      have T9 := below_then T8 hBz
      have k9 := k8.below hBz
      have gl := G9.lt
      have rl := R9.lt
      have fc9 := G9.cell.2
      clear R8 G8 T8 hBz k8
      go_wp2_with (first
        | (at_builtin; refine wpList_append_bs (w0 := wz) _ rfl _ _ _ rfl wz.heap.size 5 Try.underlying24 info_u8 none 0 0 [] rfl (own_nil _ _ _) A3 n3 c3 _ rfl (hbC.below T9) (Below.refl _ _) (by omega) (by first | exact Nat.le_refl _ | exact Below.size (Below.refl _ _) | omega | (simp <;> omega)) ?_; intro A10 n10 c10 w10 ho10 hB10 _ hz10; have u10 : n10 = n3 := (by have := ho10.len; have := hbC.len; simp at *; omega); subst u10; have g10 := (G9.below hB10).cell; have r10 := (R9.below hB10).cell; (obtain ⟨w11, hw11, S11⟩ := store1 (G9.below hB10) 8 (.slice A10 n10 c10)); have g11 := S11.blk.cell; have R11 := S11.other (by omega) (R9.below hB10); have r11 := R11.cell; (obtain ⟨w12, hw12, S12⟩ := store9 R11 (.int .u8 (bt l 1)) (.int .u16 (get16 l 4)) (.bool k) (.int .u8 (bt l 8)) (.int .u8 (bt l 9)) (.int .u32 (get32 l 12)) (.int .u32 (get32 l 16)) (.slice A7 n7 c7) (.slice A10 n10 c10))))
      have a10 := ho10.ge
      have k10 := ho10.bs
      have T12 := S12.bel (S11.bel (below_then T9 hB10) (by omega)) (Nat.le_refl _)
      have K10 := S12.bs (S11.bs k10 (fun a e => by have := a10 a e; omega)) (fun a e => by have := a10 a e; omega)
      have K9 := S12.bs (S11.bs (k9.below hB10) (fun a e => by have := a8 a e; omega)) (fun a e => by have := a8 a e; omega)
      have pf := S12.blk.cell
      have hR : rdPk true l = rdP l := by unfold rdPk; rw [if_pos HE0.out]
      have e1 : (rdP l).keep = k := HK.out
      have e2 : (rdP l).opt = List.drop 20 (List.take h.toNat l) := by rw [← HH.out]; rfl
      have e3 : (rdP l).dat = List.drop h.toNat (List.take (g).toNat l) := by rw [← HH.out, ← HM.out]; rfl
      refine bodyPost_ret (v := .tuple #[.agg #[.int .u8 (bt l 1), .int .u16 (get16 l 4), .bool k, .int .u8 (bt l 8), .int .u8 (bt l 9), .int .u32 (get32 l 12), .int .u32 (get32 l 16), .slice A7 n7 c7, .slice A10 n10 c10], .int .i64 0]) (by simp [results, Try.results97, go_sem, pf]) rfl
        ⟨A7, n7, c7, A10, n10, c10, by rw [hR, HE0.out, e1]; rfl, by rw [hR, e2]; exact K9, by rw [hR, e3]; exact K10, fun a e => by have := a8 a e; omega, fun a e => by have := a10 a e; omega, T12⟩
    | false =>
      go_enter Try.func97, Try.ntmps97
      go_wp2_with (first
        | (go_at_call 55; ((with_reducible refine (rget16_any (some ⟨b, off, none⟩) n c l 2 _ hb1).mono ?_); rintro e w2 ⟨rfl, ⟨⟨d2, rfl⟩⟩⟩))
        | (go_at_call 40; ((with_reducible refine (rgood_any (some ⟨b, off, none⟩) h.toNat c (l.take h.toNat) (by omega) _ (hbA _ (hb1.drewN _))).mono ?_); rintro e w3 ⟨rfl, hB3⟩); have R3 := ((blk_new w #[.int .u8 0, .int .u16 0, .bool false, .int .u8 0, .int .u8 0, .int .u32 0, .int .u32 0, .slice none 0 0, .slice none 0 0] 26 _ rfl).drewN d2).below hB3; have b3 := (hb1.drewN d2).below hB3; have T3 := below_then (below_drewN ((Below.refl _ w).alloc (Nat.le_refl _) _) d2) hB3; (obtain ⟨wf, hwf, S⟩ := store9 R3 (.int .u8 0) (.int .u16 0) (.bool false) (.int .u8 0) (.int .u8 0) (.int .u32 0) (.int .u32 0) (.slice none 0 0) (.slice none 0 0)); have pf := S.blk.cell; have rc := R3.cell; have TF := S.bel T3 (Nat.le_refl _))
        | (go_at_call 55; ((with_reducible refine (rget16_any (some ⟨b, off, none⟩) n c l 6 _ b3).mono ?_); rintro e w4 ⟨rfl, ⟨⟨d4, rfl⟩⟩⟩)))
      all_goals have H1 := HE.out
      all_goals simp only [Bool.not_eq_true', Bool.not_eq_false', beq_iff_eq, beq_eq_false_iff_ne, bne_iff_ne, ne_eq, bne_eq_false_iff_eq, true_and, false_and, Bool.false_eq_true, if_false] at *
      all_goals first
        | (refine bodyPost_ret (v := .tuple #[.agg #[.int .u8 0, .int .u16 0, .bool false, .int .u8 0, .int .u8 0, .int .u32 0, .int .u32 0, .slice none 0 0, .slice none 0 0], .int .i64 5]) ?_ rfl (rdPost_no 5 (H1.trans ?_) (by omega) ?_); (focus (simp [results, Try.results97, go_sem, pf]; done)); (focus (repeat' split; all_goals first | rfl | omega)); (first | exact TF | exact below_drewN TF _))
        | (refine bodyPost_ret (v := .tuple #[.agg #[.int .u8 0, .int .u16 0, .bool false, .int .u8 0, .int .u8 0, .int .u32 0, .int .u32 0, .slice none 0 0, .slice none 0 0], .int .i64 7]) ?_ rfl (rdPost_no 7 (H1.trans ?_) (by omega) ?_); (focus (simp [results, Try.results97, go_sem, pf]; done)); (focus (repeat' split; all_goals first | rfl | omega)); (first | exact TF | exact below_drewN TF _))
        | (refine bodyPost_ret (v := .tuple #[.agg #[.int .u8 0, .int .u16 0, .bool false, .int .u8 0, .int .u8 0, .int .u32 0, .int .u32 0, .slice none 0 0, .slice none 0 0], .int .i64 4]) ?_ rfl (rdPost_no 4 (H1.trans ?_) (by omega) ?_); (focus (simp [results, Try.results97, go_sem, pf]; done)); (focus (repeat' split; all_goals first | rfl | omega)); (first | exact TF | exact below_drewN TF _))
        | (refine bodyPost_ret (v := .tuple #[.agg #[.int .u8 0, .int .u16 0, .bool false, .int .u8 0, .int .u8 0, .int .u32 0, .int .u32 0, .slice none 0 0, .slice none 0 0], .int .i64 3]) ?_ rfl (rdPost_no 3 (H1.trans ?_) (by omega) ?_); (focus (simp [results, Try.results97, go_sem, pf]; done)); (focus (repeat' split; all_goals first | rfl | omega)); (first | exact TF | exact below_drewN TF _))
        | skip
      have hE : rdE false l = 0 := by
        rw [H1]
        repeat' split
        all_goals first | rfl | omega
      have HE0 := Lib.hid hE
      have b4 := b3.drewN d4
      have R4 := R3.drewN d4
      have T4 := below_drewN T3 d4
      have hrl := R4.lt
      have hcutB : ∀ W, (Instr.slice 24 (.slice (some ⟨b, off, none⟩) n c) (some (.int .i64 20)) (some (.int .i64 h)) none).run Try.prog W = _ := fun W => cut_lh Try.underlying24 hi8 hs8 (some ⟨b, off, none⟩) n c .i64 .i64 20 h (by omega) (by omega) (by omega) W
      obtain ⟨A2, n2, c2, eA, en, ec, hbB⟩ := hb.cutE (lo := 20) (hi := h.toNat) (by omega) (by omega)
      simp only [show (20 : Int).toNat = 20 from rfl, eA, en, ec] at hcutB
      clear eA en ec
      have hcutC : ∀ W, (Instr.slice 24 (.slice (some ⟨b, off, none⟩) n c) (some (.int .i64 h)) (some (.int .i64 g)) none).run Try.prog W = _ := fun W => cut_lh Try.underlying24 hi8 hs8 (some ⟨b, off, none⟩) n c .i64 .i64 h g (by omega) (by omega) (by omega) W
      obtain ⟨A3, n3, c3, eA, en, ec, hbC⟩ := hb.cutE (lo := h.toNat) (hi := (g).toNat) (by omega) (by omega)
      simp only [eA, en, ec] at hcutC
      clear eA en ec
      have m2 := hbB.max
      have m3 := hbC.max
      have x1 : (1 : Int) < n := by omega
      have x8 : (8 : Int) < n := by omega
      have x9 : (9 : Int) < n := by omega
      obtain ⟨k, hk⟩ : ∃ k, decide (16384 ≤ f) = k := ⟨_, rfl⟩
      have HK : Hid ((get16 l 6 != 0) = k) := by
        unfold Hid
        rw [HF.out, ← hk]
        by_cases z : f = 0
        · rw [z]; rfl
        · rw [show (f != 0) = true from by simpa using z]; exact (decide_eq_true (by omega)).symm
      generalize w3.drewN d4 = w4 at *
      clear hE H1 hs hf hcutA hbA hwf S pf rc TF R3 T3 b3 hB3 hb1 c0 hsd hx4
      refine region_txt 19 (by kernel_rfl) (by kernel_rfl) ?_; (iterate 19 (first | (apply ObsK.skip (by rfl)) | (apply ObsK.v (by rfl); (intro wo hT; (repeat (first | (intro v hv; ((skip))) | (intro _ _ k; try have hcv := cv k))); (have bo := b4.below hT; have c1 := bo.at_ (j := 1) (by omega); have c8 := bo.at_ (j := 8) (by omega); have c9 := bo.at_ (j := 9) (by omega); have zo : w.heap.size + 1 ≤ wo.heap.size := Nat.le_trans hrl hT.size); refine Goes.mk ?_; go_simp; first | exact goes_v | exact goes_b (by assumption) | exact goes_isP zo | (refine goes_enter ?_; first | (go_at_call 55; ((with_reducible refine (rget16_any (some ⟨b, off, none⟩) n c l 4 wo bo).mono ?_); rintro e w5 ⟨rfl, hD5⟩); exact ret_v hD5.bel) | (go_at_call 41; ((with_reducible refine (rget32_any (some ⟨b, off, none⟩) n c l 12 wo bo).mono ?_); rintro e w5 ⟨rfl, hD5⟩); exact ret_v hD5.bel) | (go_at_call 41; ((with_reducible refine (rget32_any (some ⟨b, off, none⟩) n c l 16 wo bo).mono ?_); rintro e w5 ⟨rfl, hD5⟩); exact ret_v hD5.bel)))) | (apply ObsK.b (by rfl); (intro wo hT; (repeat (first | (intro v hv; ((skip))) | (intro _ _ k; try have hcv := cv k))); (have bo := b4.below hT; have c1 := bo.at_ (j := 1) (by omega); have c8 := bo.at_ (j := 8) (by omega); have c9 := bo.at_ (j := 9) (by omega); have zo : w.heap.size + 1 ≤ wo.heap.size := Nat.le_trans hrl hT.size); refine Goes.mk ?_; go_simp; first | exact goes_v | exact goes_b (by assumption) | exact goes_isP zo | (refine goes_enter ?_; first | (go_at_call 55; ((with_reducible refine (rget16_any (some ⟨b, off, none⟩) n c l 4 wo bo).mono ?_); rintro e w5 ⟨rfl, hD5⟩); exact ret_v hD5.bel) | (go_at_call 41; ((with_reducible refine (rget32_any (some ⟨b, off, none⟩) n c l 12 wo bo).mono ?_); rintro e w5 ⟨rfl, hD5⟩); exact ret_v hD5.bel) | (go_at_call 41; ((with_reducible refine (rget32_any (some ⟨b, off, none⟩) n c l 16 wo bo).mono ?_); rintro e w5 ⟨rfl, hD5⟩); exact ret_v hD5.bel)))) | (apply ObsK.p (q := isP (w.heap.size + 1)) (by rfl) st_isP; (intro wo hT; (repeat (first | (intro v hv; ((skip))) | (intro _ _ k; try have hcv := cv k))); (have bo := b4.below hT; have c1 := bo.at_ (j := 1) (by omega); have c8 := bo.at_ (j := 8) (by omega); have c9 := bo.at_ (j := 9) (by omega); have zo : w.heap.size + 1 ≤ wo.heap.size := Nat.le_trans hrl hT.size); refine Goes.mk ?_; go_simp; first | exact goes_v | exact goes_b (by assumption) | exact goes_isP zo | (refine goes_enter ?_; first | (go_at_call 55; ((with_reducible refine (rget16_any (some ⟨b, off, none⟩) n c l 4 wo bo).mono ?_); rintro e w5 ⟨rfl, hD5⟩); exact ret_v hD5.bel) | (go_at_call 41; ((with_reducible refine (rget32_any (some ⟨b, off, none⟩) n c l 12 wo bo).mono ?_); rintro e w5 ⟨rfl, hD5⟩); exact ret_v hD5.bel) | (go_at_call 41; ((with_reducible refine (rget32_any (some ⟨b, off, none⟩) n c l 16 wo bo).mono ?_); rintro e w5 ⟨rfl, hD5⟩); exact ret_v hD5.bel)))))); refine ObsK.nil ?_; intro wz hBz; simp only [finOn, List.drop_succ_cons, List.drop_zero, List.drop_nil]
      intro vp hvp
      obtain ⟨gp, rfl, gB, G⟩ := hvp
      go_simp
      obtain ⟨wg, hwg, SG⟩ := store9 G (.int .u8 (bt l 1)) (.int .u16 (get16 l 4)) (.bool k) (.int .u8 (bt l 8)) (.int .u8 (bt l 9)) (.int .u32 (get32 l 12)) (.int .u32 (get32 l 16)) (.slice none 0 0) (.slice none 0 0)
      have gc := G.cell
      have R5 := SG.other (by omega) (R4.below hBz)
      have T5 := SG.bel (below_then T4 hBz) (by omega)
      have G5 := SG.blk
      go_wp2_with fail
      clear hwg SG gc G R4 T4 b4 hBz hk
      refine region_txt 5 (by kernel_rfl) (by kernel_rfl) ?_; (iterate 5 (first | (apply ObsK.skip (by rfl)) | (apply ObsK.v (by rfl); (intro wo hT; (repeat (first | (intro _ _ k; try have hcv := cv k))); (have gc := (G5.below hT).cell); refine Goes.mk ?_; go_simp; first | exact goes_v | exact goes_b (by assumption) | (refine goes_enter ?_; first | fail))) | (apply ObsK.b (by rfl); (intro wo hT; (repeat (first | (intro _ _ k; try have hcv := cv k))); (have gc := (G5.below hT).cell); refine Goes.mk ?_; go_simp; first | exact goes_v | exact goes_b (by assumption) | (refine goes_enter ?_; first | fail))))); refine ObsK.nil ?_; intro wz hBz; simp only [finOn, List.drop_succ_cons, List.drop_zero, List.drop_nil]
      go_simp
      have R6 := R5.below hBz
      have G6 := G5.below hBz
      have T6 := below_then T5 hBz
      have gl := G6.lt
      have rl := R6.lt
      have fc6 := G6.cell.2
      clear R5 G5 T5 hBz
      go_wp2_with (first
        | (at_builtin; refine wpList_append_bs (w0 := wz) _ rfl _ _ _ rfl wz.heap.size 5 Try.underlying24 info_u8 none 0 0 [] rfl (own_nil _ _ _) A2 n2 c2 _ rfl (hbB.below T6) (Below.refl _ _) (by omega) (by first | exact Nat.le_refl _ | exact Below.size (Below.refl _ _) | omega | (simp <;> omega)) ?_; intro A7 n7 c7 w7 ho7 hB7 _ hz7; have u7 : n7 = n2 := (by have := ho7.len; have := hbB.len; simp at *; omega); subst u7; have g7 := (G6.below hB7).cell))
      have a7 := ho7.ge
      have k7 := ho7.bs
      have G8 : Blk (w7.setCell ⟨gp, 7, none⟩ (.slice A7 n7 c7)) gp #[.int .u8 (bt l 1), .int .u16 (get16 l 4), .bool k, .int .u8 (bt l 8), .int .u8 (bt l 9), .int .u32 (get32 l 12), .int .u32 (get32 l 16), .slice A7 n7 c7, .slice none 0 0] 26 := by
        have := (G6.below hB7).set_ 7 (.slice A7 n7 c7)
        simp only [List.setIfInBounds_toArray, List.set_cons_zero, List.set_cons_succ] at this
        exact this
      have R8 := (R6.below hB7).far ⟨gp, 7, none⟩ (by simp; omega) (.slice A7 n7 c7)
      have T8 := (below_then T6 hB7).setCell (p := ⟨gp, 7, none⟩) (by simp; omega) (.slice A7 n7 c7)
      have k8 := k7.away ⟨gp, 7, none⟩ (fun a e => by have := a7 a e; simp; omega) (.slice A7 n7 c7)
      have a8 : ∀ a, A7 = some a → gp < a.block := fun a e => by have := a7 a e; omega
      generalize w7.setCell ⟨gp, 7, none⟩ (.slice A7 n7 c7) = w8 at *
      clear g7 fc6 ho7 hB7 k7 a7 G6 R6 T6 gl rl hz7
      refine region_txt 6 (by kernel_rfl) (by kernel_rfl) ?_; (iterate 6 (first | (apply ObsK.skip (by rfl)) | (apply ObsK.v (by rfl); (intro wo hT; (repeat (first | (intro _ _ k; try have hcv := cv k))); (have gc := (G8.below hT).cell); refine Goes.mk ?_; go_simp; first | exact goes_v | exact goes_b (by assumption) | (refine goes_enter ?_; first | fail))) | (apply ObsK.b (by rfl); (intro wo hT; (repeat (first | (intro _ _ k; try have hcv := cv k))); (have gc := (G8.below hT).cell); refine Goes.mk ?_; go_simp; first | exact goes_v | exact goes_b (by assumption) | (refine goes_enter ?_; first | fail))))); refine ObsK.nil ?_; intro wz hBz; simp only [finOn, List.drop_succ_cons, List.drop_zero, List.drop_nil]
      go_simp
      have R9 := R8.below hBz
      have G9 := G8.below hBz
      have T9 := below_then T8 hBz
      have k9 := k8.below hBz
      have gl := G9.lt
      have rl := R9.lt
      have fc9 := G9.cell.2
      clear R8 G8 T8 hBz k8
      go_wp2_with (first
        | (at_builtin; refine wpList_append_bs (w0 := wz) _ rfl _ _ _ rfl wz.heap.size 5 Try.underlying24 info_u8 none 0 0 [] rfl (own_nil _ _ _) A3 n3 c3 _ rfl (hbC.below T9) (Below.refl _ _) (by omega) (by first | exact Nat.le_refl _ | exact Below.size (Below.refl _ _) | omega | (simp <;> omega)) ?_; intro A10 n10 c10 w10 ho10 hB10 _ hz10; have u10 : n10 = n3 := (by have := ho10.len; have := hbC.len; simp at *; omega); subst u10; have g10 := (G9.below hB10).cell; have r10 := (R9.below hB10).cell; (obtain ⟨w11, hw11, S11⟩ := store1 (G9.below hB10) 8 (.slice A10 n10 c10)); have g11 := S11.blk.cell; have R11 := S11.other (by omega) (R9.below hB10); have r11 := R11.cell; (obtain ⟨w12, hw12, S12⟩ := store9 R11 (.int .u8 (bt l 1)) (.int .u16 (get16 l 4)) (.bool k) (.int .u8 (bt l 8)) (.int .u8 (bt l 9)) (.int .u32 (get32 l 12)) (.int .u32 (get32 l 16)) (.slice A7 n7 c7) (.slice A10 n10 c10))))
      have a10 := ho10.ge
      have k10 := ho10.bs
      have T12 := S12.bel (S11.bel (below_then T9 hB10) (by omega)) (Nat.le_refl _)
      have K10 := S12.bs (S11.bs k10 (fun a e => by have := a10 a e; omega)) (fun a e => by have := a10 a e; omega)
      have K9 := S12.bs (S11.bs (k9.below hB10) (fun a e => by have := a8 a e; omega)) (fun a e => by have := a8 a e; omega)
      have pf := S12.blk.cell
      have hR : rdPk false l = rdP l := by unfold rdPk; rw [if_pos HE0.out]
      have e1 : (rdP l).keep = k := HK.out
      have e2 : (rdP l).opt = List.drop 20 (List.take h.toNat l) := by rw [← HH.out]; rfl
      have e3 : (rdP l).dat = List.drop h.toNat (List.take (g).toNat l) := by rw [← HH.out, ← HM.out]; rfl
      refine bodyPost_ret (v := .tuple #[.agg #[.int .u8 (bt l 1), .int .u16 (get16 l 4), .bool k, .int .u8 (bt l 8), .int .u8 (bt l 9), .int .u32 (get32 l 12), .int .u32 (get32 l 16), .slice A7 n7 c7, .slice A10 n10 c10], .int .i64 0]) (by simp [results, Try.results97, go_sem, pf]) rfl
        ⟨A7, n7, c7, A10, n10, c10, by rw [hR, HE0.out, e1]; rfl, by rw [hR, e2]; exact K9, by rw [hR, e3]; exact K10, fun a e => by have := a8 a e; omega, fun a e => by have := a10 a e; omega, T12⟩
theorem rread_any (A : Option Addr) (n c : Nat) (l : List UInt8) (q : Bool) (w : World) (hb : Bs w A n c l) :
    Calls Try.prog 97 #[.slice A n c, .bool q] w (RdPost w q l) := by
  by_cases h : lenE q l = 0
  · exact rread_ok A n c l q w hb h
  · exact rread_len A n c l q w hb h
end Go.Proofs.Ytjhpmeagopdaiaa

namespace Go.Proofs.Ytjhpmeagopdaiaa
open Go.RowKit
set_option linter.unusedVariables false
set_option linter.unusedSimpArgs false
set_option maxHeartbeats 4000000
set_option maxRecDepth 100000

theorem rQuote_any (A : Option Addr) (n c : Nat) (l : List UInt8) (w : World) (hb : Bs w A n c l) :
    Calls Try.prog 70 #[.slice A n c] w (RdPost w true l) := by
  go_enter Try.func70, Try.ntmps70
  go_wp2_with fail
  refine (rread_any A n c l true _ (hb.alloc _)).mono ?_
  intro e w1 hP
  obtain ⟨A1, n1, c1, A2, n2, c2, rfl, k1, k2, a1, a2, T1⟩ := hP.out
  have P1 := (blk_new w #[.int .u8 0, .int .u16 0, .bool false, .int .u8 0, .int .u8 0, .int .u32 0, .int .u32 0, .slice none 0 0, .slice none 0 0] 26 _ rfl).below T1
  have T := below_then ((Below.refl _ w).alloc (Nat.le_refl _) _) T1
  clear hP T1
  have pc := P1.cell
  generalize hp : rdPk true l = p at *
  generalize he : rdE true l = e at *
  have HP := Lib.hid hp
  have HE := Lib.hid he
  clear hp he
  go_wp2_with fail
  obtain ⟨w2, hw2, S⟩ := store9 P1 (.int .u8 p.tos) (.int .u16 p.id) (.bool p.keep) (.int .u8 p.ttl) (.int .u8 p.proto) (.int .u32 p.src) (.int .u32 p.dst) (.slice A1 n1 c1) (.slice A2 n2 c2)
  rw [hw2]
  have K1 := S.bs k1 (fun x e => by have := a1 x e; simp at this; omega)
  have K2 := S.bs k2 (fun x e => by have := a2 x e; simp at this; omega)
  have TF := S.bel T (Nat.le_refl _)
  have pf := S.blk.cell
  clear hw2 S P1 pc k1 k2 T
  refine bodyPost_ret (v := .tuple #[(.agg #[.int .u8 (p).tos, .int .u16 (p).id, .bool (p).keep, .int .u8 (p).ttl, .int .u8 (p).proto, .int .u32 (p).src, .int .u32 (p).dst, .slice A1 n1 c1, .slice A2 n2 c2]), .int .i64 e]) (by simp [results, Try.results70, go_sem, pf]) rfl ⟨A1, n1, c1, A2, n2, c2, by rw [HP.out, HE.out], by rw [HP.out]; exact K1, by rw [HP.out]; exact K2, fun x e => by have := a1 x e; simp at this; omega, fun x e => by have := a2 x e; simp at this; omega, TF⟩
end Go.Proofs.Ytjhpmeagopdaiaa

namespace Go.Proofs.Ytjhpmeagopdaiaa
open Go.RowKit
set_option linter.unusedVariables false
set_option linter.unusedSimpArgs false
set_option maxHeartbeats 4000000
set_option maxRecDepth 100000

theorem ipQuote_v {l : List UInt8} {P : Pkt} {E : Int} (hP : rdPk true l = P) (hE : rdE true l = E) (A : Option Addr) (n c : Nat) (w : World) (hb : Bs w A n c l) :
    Calls Try.prog 33 #[.slice A n c] w fun e w' => ∃ A1 n1 c1 A2 n2 c2, e = .returned (.tuple #[(.agg #[.int .u8 (P).tos, .int .u16 (P).id, .bool (P).keep, .int .u8 (P).ttl, .int .u8 (P).proto, .int .u32 (P).src, .int .u32 (P).dst, .slice A1 n1 c1, .slice A2 n2 c2]), .int .i64 E]) ∧ Bs w' A1 n1 c1 P.opt ∧ Bs w' A2 n2 c2 P.dat ∧ Below w.heap.size w w' := by
  refine (ipQuote_any A n c l w hb).mono ?_
  intro e w' hQ
  obtain ⟨A1, n1, c1, A2, n2, c2, rfl, k1, k2, a1, a2, T⟩ := hQ.out
  rw [hP] at k1 k2 ⊢
  rw [hE]
  exact ⟨A1, n1, c1, A2, n2, c2, rfl, k1, k2, T⟩
end Go.Proofs.Ytjhpmeagopdaiaa

namespace Go.Proofs.Ytjhpmeagopdaiaa
open Go.RowKit
set_option linter.unusedVariables false
set_option linter.unusedSimpArgs false
set_option maxHeartbeats 4000000
set_option maxRecDepth 100000

def hasB (l : List UInt8) (n : Nat) (v : Int) : Bool := decide (∃ j, j < n ∧ bt l j = v)
theorem hasB_iff (l : List UInt8) (n : Nat) (v : Int) : hasB l n v = true ↔ ∃ j, j < n ∧ bt l j = v := by simp [hasB]
theorem index_any (A : Option Addr) (n c : Nat) (l : List UInt8) (v : Int) (w : World) (hb : Bs w A n c l) :
    Calls Try.prog 107 #[.slice A n c, .int .u8 v] w fun e w' => (∃ r : Int, e = .returned (.int .i64 r) ∧ decide (0 ≤ r) = hasB l n v) ∧ w = w' := by
  have hmax := hb.max
  go_enter Try.func107, Try.ntmps107
  go_wp2_with fail
  go_loop [8] (fun i => ∃ k : Nat, k ≤ n ∧ i = .int .i64 k ∧ Hid (∀ j, j < k → bt l j ≠ v)) (fun i => n - (intOf i).toNat)
  case atStart => exact ⟨0, by omega, rfl, fun j hj => by omega⟩
  case round =>
    obtain ⟨k, hk, rfl, hno⟩ := hrel
    by_cases hlt : k < n
    · obtain ⟨g, o, rfl, hc⟩ := hb.rd (by omega)
      have ck := hc k hlt
      have hki : (k : Int) < n := by omega
      clear hc
      by_cases hv : bt l k = v
      · have hv' : (v == bt l k) = true := by simp [hv]
        have HV := Lib.hid hv
        clear hv
        go_wp2_with fail
        go_ret
        exact ⟨⟨_, rfl, by rw [decide_eq_true (show (0 : Int) ≤ k by omega)]; exact ((hasB_iff l n v).2 ⟨k, hlt, HV.out⟩).symm⟩, rfl⟩
      · have hv' : (v == bt l k) = false := by simp; exact fun e => hv e.symm
        have HV := Lib.hid hv
        clear hv
        go_wp2_with fail
        exact ⟨⟨k + 1, by omega, by go_num, fun j hj => by
          by_cases e : j = k
          · subst e; exact HV.out
          · exact hno.out j (by omega)⟩, by simp [intOf]; omega⟩
    · obtain rfl : k = n := by omega
      go_wp2_with fail
      go_ret
      refine ⟨⟨_, rfl, ?_⟩, rfl⟩
      have h1 : hasB l k v = false := by
        cases h : hasB l k v with
        | false => rfl
        | true =>
          obtain ⟨j, hj, e⟩ := (hasB_iff l k v).1 h
          exact absurd e (hno.out j hj)
      rw [h1]
      rfl
theorem contains_any (A : Option Addr) (n c : Nat) (l : List UInt8) (v : Int) (w : World) (hb : Bs w A n c l) :
    Calls Try.prog 90 #[.slice A n c, .int .u8 v] w fun e w' => e = .returned (.bool (hasB l n v)) ∧ w = w' := by
  go_enter Try.func90, Try.ntmps90
  go_wp2_with (go_at_call 107; ((with_reducible refine (index_any A n c l v _ hb).mono ?_); rintro e w1 ⟨⟨r, rfl, hr⟩, rfl⟩))
  go_ret
  exact ⟨rfl, rfl⟩
theorem iserr_any (m : Msg) (A1 : Option Addr) (n1 c1 : Nat) (w : World) :
    Calls Try.prog 57 #[(.agg #[.int .u8 (m).ty, .int .u8 (m).code, .int .u32 (m).rest, .slice A1 n1 c1])] w fun e w' => e = .returned (.bool (isErrM m)) ∧ Below w.heap.size w w' := by
  have hl : ∀ W : World, Bs (W.alloc (.cells #[.int .u8 3, .int .u8 11, .int .u8 12] 5)) (some ⟨W.heap.size, 0, none⟩) 3 3 [3, 11, 12] := fun W => bs_lit [3, 11, 12] 3 rfl (by omega)
  have he : hasB [3, 11, 12] 3 m.ty = isErrM m := by
    rw [Bool.eq_iff_iff, hasB_iff]
    unfold isErrM
    simp only [Bool.or_eq_true, beq_iff_eq]
    constructor
    · rintro ⟨j, hj, e⟩
      have : j = 0 ∨ j = 1 ∨ j = 2 := by omega
      rcases this with rfl | rfl | rfl
      · exact .inl (.inl e.symm)
      · exact .inl (.inr e.symm)
      · exact .inr e.symm
    · rintro ((e | e) | e)
      · exact ⟨0, by omega, e.symm⟩
      · exact ⟨1, by omega, e.symm⟩
      · exact ⟨2, by omega, e.symm⟩
  have HE := Lib.hid he
  clear he
  obtain ⟨w1, hw1⟩ : ∃ w1, w.alloc (.cells #[.int .u8 (m).ty, .int .u8 (m).code, .int .u32 (m).rest, .slice A1 n1 c1] 42) = w1 := ⟨_, rfl⟩
  have P1 : Blk w1 w.heap.size #[.int .u8 (m).ty, .int .u8 (m).code, .int .u32 (m).rest, .slice A1 n1 c1] 42 := by rw [← hw1]; exact blk_new w _ _ _ rfl
  have R1 : Below w.heap.size w w1 := by rw [← hw1]; (repeat (first | with_reducible exact Below.refl _ _ | with_reducible refine below_drew ?_ | with_reducible refine below_drewN ?_ _ | with_reducible refine below_alloc ?_ (Nat.le_refl _) _ | with_reducible refine Below.setCell ?_ (by first | exact Nat.le_refl _ | (simp only []; omega)) _ | with_reducible assumption))
  have pl := P1.lt
  have pc := P1.cell
  go_enter Try.func57, Try.ntmps57
  go_wp2_with (go_at_call 90; ((with_reducible refine (contains_any _ 3 3 [3, 11, 12] m.ty _ (hl _)).mono ?_); rintro e w2 ⟨rfl, rfl⟩))
  go_ret
  exact ⟨by rw [HE.out]; rfl, below_alloc R1 (Nat.le_refl _) _⟩
end Go.Proofs.Ytjhpmeagopdaiaa

namespace Go.Proofs.Ytjhpmeagopdaiaa
open Go.RowKit Go.MapKept
set_option linter.unusedVariables false
set_option linter.unusedSimpArgs false
set_option linter.unusedSimpArgs false
set_option maxHeartbeats 8000000
set_option maxRecDepth 100000

theorem quo_1 (p : Pkt) (A1 : Option Addr) (n1 c1 : Nat) (A2 : Option Addr) (n2 c2 : Nat) (w : World) (k2 : Bs w A2 n2 c2 p.dat) (s : Msg) (E : Int) (ht : ∀ W, Bs W A2 n2 c2 p.dat → Calls Try.prog 32 #[(.agg #[.int .u8 (p).tos, .int .u16 (p).id, .bool (p).keep, .int .u8 (p).ttl, .int .u8 (p).proto, .int .u32 (p).src, .int .u32 (p).dst, .slice A1 n1 c1, .slice A2 n2 c2])] W (MsPost W s E)) (h0 : E ≠ 0) :
    Calls Try.prog 31 #[(.agg #[.int .u8 (p).tos, .int .u16 (p).id, .bool (p).keep, .int .u8 (p).ttl, .int .u8 (p).proto, .int .u32 (p).src, .int .u32 (p).dst, .slice A1 n1 c1, .slice A2 n2 c2])] w (TtPost w zT E) := by
  have h0b : (E != 0) = true := by simpa using h0
  clear h0
  obtain ⟨k, hk⟩ : ∃ k : Nat, w.heap.size = k := ⟨_, rfl⟩
  obtain ⟨w1, hw1⟩ : ∃ W, ((w.alloc (.cells #[.int .u8 (p).tos, .int .u16 (p).id, .bool (p).keep, .int .u8 (p).ttl, .int .u8 (p).proto, .int .u32 (p).src, .int .u32 (p).dst, .slice A1 n1 c1, .slice A2 n2 c2] 26)).alloc (.cells #[.int .u8 0, .int .u32 0, .int .u32 0, .int .u16 0, .int .u16 0] 28)) = W := ⟨_, rfl⟩
  have P1 : Blk w1 k #[.int .u8 (p).tos, .int .u16 (p).id, .bool (p).keep, .int .u8 (p).ttl, .int .u8 (p).proto, .int .u32 (p).src, .int .u32 (p).dst, .slice A1 n1 c1, .slice A2 n2 c2] 26 := by rw [← hw1]; exact ((blk_new _ _ _ k (by simp [hk])).alloc _)
  have Z1 : Blk w1 (k + 1) #[.int .u8 0, .int .u32 0, .int .u32 0, .int .u16 0, .int .u16 0] 28 := by rw [← hw1]; exact (blk_new _ _ _ (k + 1) (by simp [hk]))
  have R1 : Below w.heap.size w w1 := by rw [← hw1]; (repeat (first | with_reducible exact Below.refl _ _ | with_reducible refine below_drew ?_ | with_reducible refine below_drewN ?_ _ | with_reducible refine below_alloc ?_ (Nat.le_refl _) _ | with_reducible refine Below.setCell ?_ (by first | exact Nat.le_refl _ | (simp only []; omega)) _ | with_reducible assumption))
  have Pc1 := P1.cell
  have Zc1 := Z1.cell
  have Pl1 := P1.lt
  have Zl1 := Z1.lt
  have x1 := (k2).below R1
  go_enter Try.func31, Try.ntmps31
  go_wp2_with (go_at_call 32; ((with_reducible refine (ht w1 x1).mono ?_); rintro e u2 ⟨⟨DA, dn, dc, rfl, ho, hB2⟩⟩); (obtain ⟨w2, hw2⟩ : ∃ W, u2.alloc (.cells #[.int .u8 (s).ty, .int .u8 (s).code, .int .u32 (s).rest, .slice DA dn dc] 42) = W := ⟨_, rfl⟩); have V2 : Below u2.heap.size u2 w2 := (by rw [← hw2]; (repeat (first | with_reducible exact Below.refl _ _ | with_reducible refine below_drew ?_ | with_reducible refine below_drewN ?_ _ | with_reducible refine below_alloc ?_ (Nat.le_refl _) _ | with_reducible refine Below.setCell ?_ (by first | exact Nat.le_refl _ | (simp only []; omega)) _ | with_reducible assumption))); (obtain ⟨kS2, hkS2⟩ : ∃ k : Nat, u2.heap.size = k := ⟨_, rfl⟩); have S2 : Blk w2 kS2 #[.int .u8 (s).ty, .int .u8 (s).code, .int .u32 (s).rest, .slice DA dn dc] 42 := (by rw [← hw2]; exact blk_new u2 _ _ _ hkS2); have Sc2 := S2.cell; have T2 := below_then hB2 V2; have y2 := (ho.bs).below V2; have P2 := P1.below T2; have Pc2 := P2.cell; clear Pc1; have Z2 := Z1.below T2; have Zc2 := Z2.cell; clear Zc1; have x2 := x1.below T2; have R2 := below_then R1 T2)
  obtain ⟨wf, hwf, Sf⟩ := store5 Z2 (.int .u8 0) (.int .u32 0) (.int .u32 0) (.int .u16 0) (.int .u16 0)
  rw [hwf]
  have pf := Sf.blk.cell
  exact bodyPost_ret (v := .tuple #[(.agg #[.int .u8 (zT).proto, .int .u32 (zT).src, .int .u32 (zT).dst, .int .u16 (zT).sp, .int .u16 (zT).dp]), .int .i64 E]) (by simp [results, Try.results31, go_sem, pf, zT]) rfl ⟨⟨rfl, Sf.bel R2 (by omega)⟩⟩

theorem quo_2 (p : Pkt) (A1 : Option Addr) (n1 c1 : Nat) (A2 : Option Addr) (n2 c2 : Nat) (w : World) (k2 : Bs w A2 n2 c2 p.dat) (s : Msg)  (ht : ∀ W, Bs W A2 n2 c2 p.dat → Calls Try.prog 32 #[(.agg #[.int .u8 (p).tos, .int .u16 (p).id, .bool (p).keep, .int .u8 (p).ttl, .int .u8 (p).proto, .int .u32 (p).src, .int .u32 (p).dst, .slice A1 n1 c1, .slice A2 n2 c2])] W (MsPost W s 0))  (he : ∀ B b1 b2 W, Calls Try.prog 57 #[(.agg #[.int .u8 (s).ty, .int .u8 (s).code, .int .u32 (s).rest, .slice B b1 b2])] W fun e w' => e = .returned (.bool false) ∧ Below W.heap.size W w') :
    Calls Try.prog 31 #[(.agg #[.int .u8 (p).tos, .int .u16 (p).id, .bool (p).keep, .int .u8 (p).ttl, .int .u8 (p).proto, .int .u32 (p).src, .int .u32 (p).dst, .slice A1 n1 c1, .slice A2 n2 c2])] w (TtPost w zT 12) := by
  obtain ⟨k, hk⟩ : ∃ k : Nat, w.heap.size = k := ⟨_, rfl⟩
  obtain ⟨w1, hw1⟩ : ∃ W, ((w.alloc (.cells #[.int .u8 (p).tos, .int .u16 (p).id, .bool (p).keep, .int .u8 (p).ttl, .int .u8 (p).proto, .int .u32 (p).src, .int .u32 (p).dst, .slice A1 n1 c1, .slice A2 n2 c2] 26)).alloc (.cells #[.int .u8 0, .int .u32 0, .int .u32 0, .int .u16 0, .int .u16 0] 28)) = W := ⟨_, rfl⟩
  have P1 : Blk w1 k #[.int .u8 (p).tos, .int .u16 (p).id, .bool (p).keep, .int .u8 (p).ttl, .int .u8 (p).proto, .int .u32 (p).src, .int .u32 (p).dst, .slice A1 n1 c1, .slice A2 n2 c2] 26 := by rw [← hw1]; exact ((blk_new _ _ _ k (by simp [hk])).alloc _)
  have Z1 : Blk w1 (k + 1) #[.int .u8 0, .int .u32 0, .int .u32 0, .int .u16 0, .int .u16 0] 28 := by rw [← hw1]; exact (blk_new _ _ _ (k + 1) (by simp [hk]))
  have R1 : Below w.heap.size w w1 := by rw [← hw1]; (repeat (first | with_reducible exact Below.refl _ _ | with_reducible refine below_drew ?_ | with_reducible refine below_drewN ?_ _ | with_reducible refine below_alloc ?_ (Nat.le_refl _) _ | with_reducible refine Below.setCell ?_ (by first | exact Nat.le_refl _ | (simp only []; omega)) _ | with_reducible assumption))
  have Pc1 := P1.cell
  have Zc1 := Z1.cell
  have Pl1 := P1.lt
  have Zl1 := Z1.lt
  have x1 := (k2).below R1
  go_enter Try.func31, Try.ntmps31
  go_wp2_with (first
    | (go_at_call 32; ((with_reducible refine (ht w1 x1).mono ?_); rintro e u2 ⟨⟨DA, dn, dc, rfl, ho, hB2⟩⟩); (obtain ⟨w2, hw2⟩ : ∃ W, u2.alloc (.cells #[.int .u8 (s).ty, .int .u8 (s).code, .int .u32 (s).rest, .slice DA dn dc] 42) = W := ⟨_, rfl⟩); have V2 : Below u2.heap.size u2 w2 := (by rw [← hw2]; (repeat (first | with_reducible exact Below.refl _ _ | with_reducible refine below_drew ?_ | with_reducible refine below_drewN ?_ _ | with_reducible refine below_alloc ?_ (Nat.le_refl _) _ | with_reducible refine Below.setCell ?_ (by first | exact Nat.le_refl _ | (simp only []; omega)) _ | with_reducible assumption))); (obtain ⟨kS2, hkS2⟩ : ∃ k : Nat, u2.heap.size = k := ⟨_, rfl⟩); have S2 : Blk w2 kS2 #[.int .u8 (s).ty, .int .u8 (s).code, .int .u32 (s).rest, .slice DA dn dc] 42 := (by rw [← hw2]; exact blk_new u2 _ _ _ hkS2); have Sc2 := S2.cell; have T2 := below_then hB2 V2; have y2 := (ho.bs).below V2; have P2 := P1.below T2; have Pc2 := P2.cell; clear Pc1; have Z2 := Z1.below T2; have Zc2 := Z2.cell; clear Zc1; have x2 := x1.below T2; have R2 := below_then R1 T2)
    | (go_at_call 57; ((with_reducible refine (he DA dn dc w2).mono ?_); rintro e w3 ⟨rfl, hB3⟩); have P3 := P2.below hB3; have Pc3 := P3.cell; clear Pc2; have Z3 := Z2.below hB3; have Zc3 := Z3.cell; clear Zc2; have S3 := S2.below hB3; have Sc3 := S3.cell; clear Sc2; have x3 := x2.below hB3; have y3 := y2.below hB3; have R3 := below_then R2 hB3))
  obtain ⟨wf, hwf, Sf⟩ := store5 Z3 (.int .u8 0) (.int .u32 0) (.int .u32 0) (.int .u16 0) (.int .u16 0)
  rw [hwf]
  have pf := Sf.blk.cell
  exact bodyPost_ret (v := .tuple #[(.agg #[.int .u8 (zT).proto, .int .u32 (zT).src, .int .u32 (zT).dst, .int .u16 (zT).sp, .int .u16 (zT).dp]), .int .i64 12]) (by simp [results, Try.results31, go_sem, pf, zT]) rfl ⟨⟨rfl, Sf.bel R3 (by omega)⟩⟩

theorem quo_3 (p : Pkt) (A1 : Option Addr) (n1 c1 : Nat) (A2 : Option Addr) (n2 c2 : Nat) (w : World) (k2 : Bs w A2 n2 c2 p.dat) (s : Msg)  (ht : ∀ W, Bs W A2 n2 c2 p.dat → Calls Try.prog 32 #[(.agg #[.int .u8 (p).tos, .int .u16 (p).id, .bool (p).keep, .int .u8 (p).ttl, .int .u8 (p).proto, .int .u32 (p).src, .int .u32 (p).dst, .slice A1 n1 c1, .slice A2 n2 c2])] W (MsPost W s 0))  (he : ∀ B b1 b2 W, Calls Try.prog 57 #[(.agg #[.int .u8 (s).ty, .int .u8 (s).code, .int .u32 (s).rest, .slice B b1 b2])] W fun e w' => e = .returned (.bool true) ∧ Below W.heap.size W w') (q : Pkt) (F : Int) (hq : ∀ B b1 b2 W, Bs W B b1 b2 s.dat → Calls Try.prog 33 #[.slice B b1 b2] W fun e w' => ∃ C1 e1 f1 C2 e2 f2, e = .returned (.tuple #[(.agg #[.int .u8 (q).tos, .int .u16 (q).id, .bool (q).keep, .int .u8 (q).ttl, .int .u8 (q).proto, .int .u32 (q).src, .int .u32 (q).dst, .slice C1 e1 f1, .slice C2 e2 f2]), .int .i64 F]) ∧ Bs w' C1 e1 f1 q.opt ∧ Bs w' C2 e2 f2 q.dat ∧ Below W.heap.size W w') (h0 : F ≠ 0) :
    Calls Try.prog 31 #[(.agg #[.int .u8 (p).tos, .int .u16 (p).id, .bool (p).keep, .int .u8 (p).ttl, .int .u8 (p).proto, .int .u32 (p).src, .int .u32 (p).dst, .slice A1 n1 c1, .slice A2 n2 c2])] w (TtPost w zT F) := by
  have h0b : (F != 0) = true := by simpa using h0
  clear h0
  obtain ⟨k, hk⟩ : ∃ k : Nat, w.heap.size = k := ⟨_, rfl⟩
  obtain ⟨w1, hw1⟩ : ∃ W, ((w.alloc (.cells #[.int .u8 (p).tos, .int .u16 (p).id, .bool (p).keep, .int .u8 (p).ttl, .int .u8 (p).proto, .int .u32 (p).src, .int .u32 (p).dst, .slice A1 n1 c1, .slice A2 n2 c2] 26)).alloc (.cells #[.int .u8 0, .int .u32 0, .int .u32 0, .int .u16 0, .int .u16 0] 28)) = W := ⟨_, rfl⟩
  have P1 : Blk w1 k #[.int .u8 (p).tos, .int .u16 (p).id, .bool (p).keep, .int .u8 (p).ttl, .int .u8 (p).proto, .int .u32 (p).src, .int .u32 (p).dst, .slice A1 n1 c1, .slice A2 n2 c2] 26 := by rw [← hw1]; exact ((blk_new _ _ _ k (by simp [hk])).alloc _)
  have Z1 : Blk w1 (k + 1) #[.int .u8 0, .int .u32 0, .int .u32 0, .int .u16 0, .int .u16 0] 28 := by rw [← hw1]; exact (blk_new _ _ _ (k + 1) (by simp [hk]))
  have R1 : Below w.heap.size w w1 := by rw [← hw1]; (repeat (first | with_reducible exact Below.refl _ _ | with_reducible refine below_drew ?_ | with_reducible refine below_drewN ?_ _ | with_reducible refine below_alloc ?_ (Nat.le_refl _) _ | with_reducible refine Below.setCell ?_ (by first | exact Nat.le_refl _ | (simp only []; omega)) _ | with_reducible assumption))
  have Pc1 := P1.cell
  have Zc1 := Z1.cell
  have Pl1 := P1.lt
  have Zl1 := Z1.lt
  have x1 := (k2).below R1
  go_enter Try.func31, Try.ntmps31
  go_wp2_with (first
    | (go_at_call 32; ((with_reducible refine (ht w1 x1).mono ?_); rintro e u2 ⟨⟨DA, dn, dc, rfl, ho, hB2⟩⟩); (obtain ⟨w2, hw2⟩ : ∃ W, u2.alloc (.cells #[.int .u8 (s).ty, .int .u8 (s).code, .int .u32 (s).rest, .slice DA dn dc] 42) = W := ⟨_, rfl⟩); have V2 : Below u2.heap.size u2 w2 := (by rw [← hw2]; (repeat (first | with_reducible exact Below.refl _ _ | with_reducible refine below_drew ?_ | with_reducible refine below_drewN ?_ _ | with_reducible refine below_alloc ?_ (Nat.le_refl _) _ | with_reducible refine Below.setCell ?_ (by first | exact Nat.le_refl _ | (simp only []; omega)) _ | with_reducible assumption))); (obtain ⟨kS2, hkS2⟩ : ∃ k : Nat, u2.heap.size = k := ⟨_, rfl⟩); have S2 : Blk w2 kS2 #[.int .u8 (s).ty, .int .u8 (s).code, .int .u32 (s).rest, .slice DA dn dc] 42 := (by rw [← hw2]; exact blk_new u2 _ _ _ hkS2); have Sc2 := S2.cell; have T2 := below_then hB2 V2; have y2 := (ho.bs).below V2; have P2 := P1.below T2; have Pc2 := P2.cell; clear Pc1; have Z2 := Z1.below T2; have Zc2 := Z2.cell; clear Zc1; have x2 := x1.below T2; have R2 := below_then R1 T2)
    | (go_at_call 57; ((with_reducible refine (he DA dn dc w2).mono ?_); rintro e w3 ⟨rfl, hB3⟩); have P3 := P2.below hB3; have Pc3 := P3.cell; clear Pc2; have Z3 := Z2.below hB3; have Zc3 := Z3.cell; clear Zc2; have S3 := S2.below hB3; have Sc3 := S3.cell; clear Sc2; have x3 := x2.below hB3; have y3 := y2.below hB3; have R3 := below_then R2 hB3)
    | (go_at_call 33; ((with_reducible refine (hq DA dn dc w3 y3).mono ?_); rintro e u4 ⟨C1, e1, f1, C2, e2, f2, rfl, kq1, kq2, hB4⟩); (obtain ⟨w4, hw4⟩ : ∃ W, u4.alloc (.cells #[.int .u8 (q).tos, .int .u16 (q).id, .bool (q).keep, .int .u8 (q).ttl, .int .u8 (q).proto, .int .u32 (q).src, .int .u32 (q).dst, .slice C1 e1 f1, .slice C2 e2 f2] 26) = W := ⟨_, rfl⟩); have V4 : Below u4.heap.size u4 w4 := (by rw [← hw4]; (repeat (first | with_reducible exact Below.refl _ _ | with_reducible refine below_drew ?_ | with_reducible refine below_drewN ?_ _ | with_reducible refine below_alloc ?_ (Nat.le_refl _) _ | with_reducible refine Below.setCell ?_ (by first | exact Nat.le_refl _ | (simp only []; omega)) _ | with_reducible assumption))); (obtain ⟨kG4, hkG4⟩ : ∃ k : Nat, u4.heap.size = k := ⟨_, rfl⟩); have G4 : Blk w4 kG4 #[.int .u8 (q).tos, .int .u16 (q).id, .bool (q).keep, .int .u8 (q).ttl, .int .u8 (q).proto, .int .u32 (q).src, .int .u32 (q).dst, .slice C1 e1 f1, .slice C2 e2 f2] 26 := (by rw [← hw4]; exact blk_new u4 _ _ _ hkG4); have Gc4 := G4.cell; have T4 := below_then hB4 V4; have z4 := (kq2).below V4; have P4 := P3.below T4; have Pc4 := P4.cell; clear Pc3; have Z4 := Z3.below T4; have Zc4 := Z4.cell; clear Zc3; have S4 := S3.below T4; have Sc4 := S4.cell; clear Sc3; have x4 := x3.below T4; have y4 := y3.below T4; have R4 := below_then R3 T4))
  obtain ⟨wf, hwf, Sf⟩ := store5 Z4 (.int .u8 0) (.int .u32 0) (.int .u32 0) (.int .u16 0) (.int .u16 0)
  rw [hwf]
  have pf := Sf.blk.cell
  exact bodyPost_ret (v := .tuple #[(.agg #[.int .u8 (zT).proto, .int .u32 (zT).src, .int .u32 (zT).dst, .int .u16 (zT).sp, .int .u16 (zT).dp]), .int .i64 F]) (by simp [results, Try.results31, go_sem, pf, zT]) rfl ⟨⟨rfl, Sf.bel R4 (by omega)⟩⟩

theorem quo_tcp (p : Pkt) (A1 : Option Addr) (n1 c1 : Nat) (A2 : Option Addr) (n2 c2 : Nat) (w : World) (k2 : Bs w A2 n2 c2 p.dat) (s : Msg)  (ht : ∀ W, Bs W A2 n2 c2 p.dat → Calls Try.prog 32 #[(.agg #[.int .u8 (p).tos, .int .u16 (p).id, .bool (p).keep, .int .u8 (p).ttl, .int .u8 (p).proto, .int .u32 (p).src, .int .u32 (p).dst, .slice A1 n1 c1, .slice A2 n2 c2])] W (MsPost W s 0))  (he : ∀ B b1 b2 W, Calls Try.prog 57 #[(.agg #[.int .u8 (s).ty, .int .u8 (s).code, .int .u32 (s).rest, .slice B b1 b2])] W fun e w' => e = .returned (.bool true) ∧ Below W.heap.size W w') (q : Pkt)  (hq : ∀ B b1 b2 W, Bs W B b1 b2 s.dat → Calls Try.prog 33 #[.slice B b1 b2] W fun e w' => ∃ C1 e1 f1 C2 e2 f2, e = .returned (.tuple #[(.agg #[.int .u8 (q).tos, .int .u16 (q).id, .bool (q).keep, .int .u8 (q).ttl, .int .u8 (q).proto, .int .u32 (q).src, .int .u32 (q).dst, .slice C1 e1 f1, .slice C2 e2 f2]), .int .i64 0]) ∧ Bs w' C1 e1 f1 q.opt ∧ Bs w' C2 e2 f2 q.dat ∧ Below W.heap.size W w') (hkn : ∀ (W : World) (r : Nat), W.heap[r]? = some (.map (kn 4) 4) → (Instr.lookup 84 (.map (some r)) (.int .u8 q.proto) true).run Try.prog W = .ok (.tuple #[.agg #[.func (.func 73) #[] #[], .func (.func 72) #[] #[]], .bool true]) W) (a0 b0 F : Int)
    (hw : ∀ W C1 e1 f1 C2 e2 f2, Bs W C2 e2 f2 q.dat → Calls Try.prog 72 #[(.agg #[.int .u8 (q).tos, .int .u16 (q).id, .bool (q).keep, .int .u8 (q).ttl, .int .u8 (q).proto, .int .u32 (q).src, .int .u32 (q).dst, .slice C1 e1 f1, .slice C2 e2 f2])] W (WyPost W a0 b0 F)) :
    Calls Try.prog 31 #[(.agg #[.int .u8 (p).tos, .int .u16 (p).id, .bool (p).keep, .int .u8 (p).ttl, .int .u8 (p).proto, .int .u32 (p).src, .int .u32 (p).dst, .slice A1 n1 c1, .slice A2 n2 c2])] w (TtPost w (tuP q a0 b0 F) F) := by
  have htu : ∀ a b, (F = 0 → a = a0 ∧ b = b0) → ∀ C1 e1 f1 C2 e2 f2 W, Calls Try.prog 43 #[(.agg #[.int .u8 (q).tos, .int .u16 (q).id, .bool (q).keep, .int .u8 (q).ttl, .int .u8 (q).proto, .int .u32 (q).src, .int .u32 (q).dst, .slice C1 e1 f1, .slice C2 e2 f2]), .agg #[.int .u16 a, .int .u16 b], .int .i64 F] W (TtPost W (tuP q a0 b0 F) F) := fun a b hab C1 e1 f1 C2 e2 f2 W => by
    have h := tupled_any q C1 e1 f1 C2 e2 f2 a b F W
    have e : tuP q a b F = tuP q a0 b0 F := by
      unfold tuP
      by_cases h0 : F = 0
      · obtain ⟨rfl, rfl⟩ := hab h0; rfl
      · rw [if_pos h0, if_pos h0]
    rw [e] at h
    exact h
  obtain ⟨T, hT'⟩ : ∃ T, tuP q a0 b0 F = T := ⟨_, rfl⟩
  rw [hT'] at htu
  rw [hT']
  clear hT'
  have hrun : ∀ (W : World) (r : Nat), W.heap[r]? = some (.map (kn 4) 4) → (Instr.lookup 84 (.map (some r)) (.int .u8 q.proto) true).run Try.prog W = .ok (.tuple #[.agg #[.func (.func 73) #[] #[], .func (.func 72) #[] #[]], .bool true]) W := hkn
  clear hkn
  obtain ⟨k, hk⟩ : ∃ k : Nat, w.heap.size = k := ⟨_, rfl⟩
  obtain ⟨w1, hw1⟩ : ∃ W, ((w.alloc (.cells #[.int .u8 (p).tos, .int .u16 (p).id, .bool (p).keep, .int .u8 (p).ttl, .int .u8 (p).proto, .int .u32 (p).src, .int .u32 (p).dst, .slice A1 n1 c1, .slice A2 n2 c2] 26)).alloc (.cells #[.int .u8 0, .int .u32 0, .int .u32 0, .int .u16 0, .int .u16 0] 28)) = W := ⟨_, rfl⟩
  have P1 : Blk w1 k #[.int .u8 (p).tos, .int .u16 (p).id, .bool (p).keep, .int .u8 (p).ttl, .int .u8 (p).proto, .int .u32 (p).src, .int .u32 (p).dst, .slice A1 n1 c1, .slice A2 n2 c2] 26 := by rw [← hw1]; exact ((blk_new _ _ _ k (by simp [hk])).alloc _)
  have Z1 : Blk w1 (k + 1) #[.int .u8 0, .int .u32 0, .int .u32 0, .int .u16 0, .int .u16 0] 28 := by rw [← hw1]; exact (blk_new _ _ _ (k + 1) (by simp [hk]))
  have R1 : Below w.heap.size w w1 := by rw [← hw1]; (repeat (first | with_reducible exact Below.refl _ _ | with_reducible refine below_drew ?_ | with_reducible refine below_drewN ?_ _ | with_reducible refine below_alloc ?_ (Nat.le_refl _) _ | with_reducible refine Below.setCell ?_ (by first | exact Nat.le_refl _ | (simp only []; omega)) _ | with_reducible assumption))
  have Pc1 := P1.cell
  have Zc1 := Z1.cell
  have Pl1 := P1.lt
  have Zl1 := Z1.lt
  have x1 := (k2).below R1
  go_enter Try.func31, Try.ntmps31
  go_wp2_with (first
    | (go_at_call 32; ((with_reducible refine (ht w1 x1).mono ?_); rintro e u2 ⟨⟨DA, dn, dc, rfl, ho, hB2⟩⟩); (obtain ⟨w2, hw2⟩ : ∃ W, u2.alloc (.cells #[.int .u8 (s).ty, .int .u8 (s).code, .int .u32 (s).rest, .slice DA dn dc] 42) = W := ⟨_, rfl⟩); have V2 : Below u2.heap.size u2 w2 := (by rw [← hw2]; (repeat (first | with_reducible exact Below.refl _ _ | with_reducible refine below_drew ?_ | with_reducible refine below_drewN ?_ _ | with_reducible refine below_alloc ?_ (Nat.le_refl _) _ | with_reducible refine Below.setCell ?_ (by first | exact Nat.le_refl _ | (simp only []; omega)) _ | with_reducible assumption))); (obtain ⟨kS2, hkS2⟩ : ∃ k : Nat, u2.heap.size = k := ⟨_, rfl⟩); have S2 : Blk w2 kS2 #[.int .u8 (s).ty, .int .u8 (s).code, .int .u32 (s).rest, .slice DA dn dc] 42 := (by rw [← hw2]; exact blk_new u2 _ _ _ hkS2); have Sc2 := S2.cell; have T2 := below_then hB2 V2; have y2 := (ho.bs).below V2; have P2 := P1.below T2; have Pc2 := P2.cell; clear Pc1; have Z2 := Z1.below T2; have Zc2 := Z2.cell; clear Zc1; have x2 := x1.below T2; have R2 := below_then R1 T2)
    | (go_at_call 57; ((with_reducible refine (he DA dn dc w2).mono ?_); rintro e w3 ⟨rfl, hB3⟩); have P3 := P2.below hB3; have Pc3 := P3.cell; clear Pc2; have Z3 := Z2.below hB3; have Zc3 := Z3.cell; clear Zc2; have S3 := S2.below hB3; have Sc3 := S3.cell; clear Sc2; have x3 := x2.below hB3; have y3 := y2.below hB3; have R3 := below_then R2 hB3)
    | (go_at_call 33; ((with_reducible refine (hq DA dn dc w3 y3).mono ?_); rintro e u4 ⟨C1, e1, f1, C2, e2, f2, rfl, kq1, kq2, hB4⟩); (obtain ⟨w4, hw4⟩ : ∃ W, u4.alloc (.cells #[.int .u8 (q).tos, .int .u16 (q).id, .bool (q).keep, .int .u8 (q).ttl, .int .u8 (q).proto, .int .u32 (q).src, .int .u32 (q).dst, .slice C1 e1 f1, .slice C2 e2 f2] 26) = W := ⟨_, rfl⟩); have V4 : Below u4.heap.size u4 w4 := (by rw [← hw4]; (repeat (first | with_reducible exact Below.refl _ _ | with_reducible refine below_drew ?_ | with_reducible refine below_drewN ?_ _ | with_reducible refine below_alloc ?_ (Nat.le_refl _) _ | with_reducible refine Below.setCell ?_ (by first | exact Nat.le_refl _ | (simp only []; omega)) _ | with_reducible assumption))); (obtain ⟨kG4, hkG4⟩ : ∃ k : Nat, u4.heap.size = k := ⟨_, rfl⟩); have G4 : Blk w4 kG4 #[.int .u8 (q).tos, .int .u16 (q).id, .bool (q).keep, .int .u8 (q).ttl, .int .u8 (q).proto, .int .u32 (q).src, .int .u32 (q).dst, .slice C1 e1 f1, .slice C2 e2 f2] 26 := (by rw [← hw4]; exact blk_new u4 _ _ _ hkG4); have Gc4 := G4.cell; have T4 := below_then hB4 V4; have z4 := (kq2).below V4; have P4 := P3.below T4; have Pc4 := P4.cell; clear Pc3; have Z4 := Z3.below T4; have Zc4 := Z4.cell; clear Zc3; have S4 := S3.below T4; have Sc4 := S4.cell; clear Sc3; have x4 := x3.below T4; have y4 := y3.below T4; have R4 := below_then R3 T4))
  refine region_z 8 6 (by kernel_rfl) (by kernel_rfl) (fun _ _ _ _ _ h => h) ?_; (iterate 8 (first | (apply ObsK.skip (by rfl)) | (apply ObsK.v (by rfl); (intro wo hT; (repeat (first | (intro v hv; ((obtain ⟨r, rfl, hm⟩ := hv; have hlk := hrun _ r hm))) | (intro _ _ k; try have hcv := cv k))); (have gc := (G4.below hT).cell; have hsz : w4.heap.size ≤ wo.heap.size := hT.size); refine Goes.mk ?_; go_simp; first | exact goes_v | exact goes_b (by assumption) | exact goes_new hsz | (refine goes_enter ?_; first | (go_at_call 42; ((with_reducible refine (known_any wo).mono ?_); rintro e w9 ⟨rfl, rfl⟩); exact ret_isKn)))) | (apply ObsK.b (by rfl); (intro wo hT; (repeat (first | (intro v hv; ((obtain ⟨r, rfl, hm⟩ := hv; have hlk := hrun _ r hm))) | (intro _ _ k; try have hcv := cv k))); (have gc := (G4.below hT).cell; have hsz : w4.heap.size ≤ wo.heap.size := hT.size); refine Goes.mk ?_; go_simp; first | exact goes_v | exact goes_b (by assumption) | exact goes_new hsz | (refine goes_enter ?_; first | (go_at_call 42; ((with_reducible refine (known_any wo).mono ?_); rintro e w9 ⟨rfl, rfl⟩); exact ret_isKn)))) | (apply ObsK.p (q := isKn) (by rfl) st_isKn; (intro wo hT; (repeat (first | (intro v hv; ((obtain ⟨r, rfl, hm⟩ := hv; have hlk := hrun _ r hm))) | (intro _ _ k; try have hcv := cv k))); (have gc := (G4.below hT).cell; have hsz : w4.heap.size ≤ wo.heap.size := hT.size); refine Goes.mk ?_; go_simp; first | exact goes_v | exact goes_b (by assumption) | exact goes_new hsz | (refine goes_enter ?_; first | (go_at_call 42; ((with_reducible refine (known_any wo).mono ?_); rintro e w9 ⟨rfl, rfl⟩); exact ret_isKn)))) | (apply ObsK.p (q := isNew w4.heap.size #[.nilFunc, .nilFunc] 82) (by rfl) st_isNew; (intro wo hT; (repeat (first | (intro v hv; ((obtain ⟨r, rfl, hm⟩ := hv; have hlk := hrun _ r hm))) | (intro _ _ k; try have hcv := cv k))); (have gc := (G4.below hT).cell; have hsz : w4.heap.size ≤ wo.heap.size := hT.size); refine Goes.mk ?_; go_simp; first | exact goes_v | exact goes_b (by assumption) | exact goes_new hsz | (refine goes_enter ?_; first | (go_at_call 42; ((with_reducible refine (known_any wo).mono ?_); rintro e w9 ⟨rfl, rfl⟩); exact ret_isKn)))))); refine ObsK.nil ?_; intro wz hBz; simp only [finOn, List.drop_succ_cons, List.drop_zero, List.drop_nil]
  rintro _ ⟨gS, rfl, hS, S5⟩ _ ⟨m, rfl, -⟩
  go_simp
  obtain ⟨wq, hwq, Sq⟩ := store2 S5 (.func (.func 73) #[] #[]) (.func (.func 72) #[] #[])
  have hBq := Sq.bel hBz hS
  have cS5 := S5.cell
  have hsf : ∀ (W : World) (a : Addr) (fn : Fn) (m : Mode), (store a (.func fn #[] #[]) m).run Try.prog W = stored Try.prog W a (.func fn #[] #[]) m := fun W a fn m => run_store _ W a _ m rfl
  have V5 := Sq.blk
  have Vc5 := V5.cell
  have P5 := P4.below hBq
  have Pc5 := P5.cell
  clear Pc4
  have Z5 := Z4.below hBq
  have Zc5 := Z5.cell
  clear Zc4
  have S5 := S4.below hBq
  have Sc5 := S5.cell
  clear Sc4
  have G5 := G4.below hBq
  have Gc5 := G5.cell
  clear Gc4
  have x5 := x4.below hBq
  have y5 := y4.below hBq
  have z5 := z4.below hBq
  have R5 := below_then R4 hBq
  go_wp2_with (first
    | (go_at_call 72; ((with_reducible refine (hw wq C1 e1 f1 C2 e2 f2 z5).mono ?_); rintro e u6 ⟨⟨pa, pb, rfl, hab, hB6⟩⟩); (obtain ⟨w6, hw6⟩ : ∃ W, u6.alloc (.cells #[.int .u16 pa, .int .u16 pb] 87) = W := ⟨_, rfl⟩); have V6 : Below u6.heap.size u6 w6 := (by rw [← hw6]; (repeat (first | with_reducible exact Below.refl _ _ | with_reducible refine below_drew ?_ | with_reducible refine below_drewN ?_ _ | with_reducible refine below_alloc ?_ (Nat.le_refl _) _ | with_reducible refine Below.setCell ?_ (by first | exact Nat.le_refl _ | (simp only []; omega)) _ | with_reducible assumption))); (obtain ⟨kQ6, hkQ6⟩ : ∃ k : Nat, u6.heap.size = k := ⟨_, rfl⟩); have Q6 : Blk w6 kQ6 #[.int .u16 pa, .int .u16 pb] 87 := (by rw [← hw6]; exact blk_new u6 _ _ _ hkQ6); have Qc6 := Q6.cell; have T6 := below_then hB6 V6; have P6 := P5.below T6; have Pc6 := P6.cell; clear Pc5; have Z6 := Z5.below T6; have Zc6 := Z6.cell; clear Zc5; have S6 := S5.below T6; have Sc6 := S6.cell; clear Sc5; have G6 := G5.below T6; have Gc6 := G6.cell; clear Gc5; have V6 := V5.below T6; have Vc6 := V6.cell; clear Vc5; have x6 := x5.below T6; have y6 := y5.below T6; have z6 := z5.below T6; have R6 := below_then R5 T6)
    | (go_at_call 43; ((with_reducible refine (htu pa pb hab C1 e1 f1 C2 e2 f2 w6).mono ?_); rintro e w7 ⟨⟨rfl, hB7⟩⟩); have P7 := P6.below hB7; have Pc7 := P7.cell; clear Pc6; have Z7 := Z6.below hB7; have Zc7 := Z7.cell; clear Zc6; have S7 := S6.below hB7; have Sc7 := S7.cell; clear Sc6; have G7 := G6.below hB7; have Gc7 := G7.cell; clear Gc6; have V7 := V6.below hB7; have Vc7 := V7.cell; clear Vc6; have Q7 := Q6.below hB7; have Qc7 := Q7.cell; clear Qc6; have x7 := x6.below hB7; have y7 := y6.below hB7; have z7 := z6.below hB7; have R7 := below_then R6 hB7))
  obtain ⟨wf, hwf, Sf⟩ := store5 Z7 (.int .u8 T.proto) (.int .u32 T.src) (.int .u32 T.dst) (.int .u16 T.sp) (.int .u16 T.dp)
  rw [hwf]
  have pf := Sf.blk.cell
  exact bodyPost_ret (v := .tuple #[(.agg #[.int .u8 (T).proto, .int .u32 (T).src, .int .u32 (T).dst, .int .u16 (T).sp, .int .u16 (T).dp]), .int .i64 F]) (by simp [results, Try.results31, go_sem, pf, zT]) rfl ⟨⟨rfl, Sf.bel R7 (by omega)⟩⟩

theorem quo_udp (p : Pkt) (A1 : Option Addr) (n1 c1 : Nat) (A2 : Option Addr) (n2 c2 : Nat) (w : World) (k2 : Bs w A2 n2 c2 p.dat) (s : Msg)  (ht : ∀ W, Bs W A2 n2 c2 p.dat → Calls Try.prog 32 #[(.agg #[.int .u8 (p).tos, .int .u16 (p).id, .bool (p).keep, .int .u8 (p).ttl, .int .u8 (p).proto, .int .u32 (p).src, .int .u32 (p).dst, .slice A1 n1 c1, .slice A2 n2 c2])] W (MsPost W s 0))  (he : ∀ B b1 b2 W, Calls Try.prog 57 #[(.agg #[.int .u8 (s).ty, .int .u8 (s).code, .int .u32 (s).rest, .slice B b1 b2])] W fun e w' => e = .returned (.bool true) ∧ Below W.heap.size W w') (q : Pkt)  (hq : ∀ B b1 b2 W, Bs W B b1 b2 s.dat → Calls Try.prog 33 #[.slice B b1 b2] W fun e w' => ∃ C1 e1 f1 C2 e2 f2, e = .returned (.tuple #[(.agg #[.int .u8 (q).tos, .int .u16 (q).id, .bool (q).keep, .int .u8 (q).ttl, .int .u8 (q).proto, .int .u32 (q).src, .int .u32 (q).dst, .slice C1 e1 f1, .slice C2 e2 f2]), .int .i64 0]) ∧ Bs w' C1 e1 f1 q.opt ∧ Bs w' C2 e2 f2 q.dat ∧ Below W.heap.size W w') (hkn : ∀ (W : World) (r : Nat), W.heap[r]? = some (.map (kn 4) 4) → (Instr.lookup 84 (.map (some r)) (.int .u8 q.proto) true).run Try.prog W = .ok (.tuple #[.agg #[.func (.func 74) #[] #[], .func (.func 72) #[] #[]], .bool true]) W) (a0 b0 F : Int)
    (hw : ∀ W C1 e1 f1 C2 e2 f2, Bs W C2 e2 f2 q.dat → Calls Try.prog 72 #[(.agg #[.int .u8 (q).tos, .int .u16 (q).id, .bool (q).keep, .int .u8 (q).ttl, .int .u8 (q).proto, .int .u32 (q).src, .int .u32 (q).dst, .slice C1 e1 f1, .slice C2 e2 f2])] W (WyPost W a0 b0 F)) :
    Calls Try.prog 31 #[(.agg #[.int .u8 (p).tos, .int .u16 (p).id, .bool (p).keep, .int .u8 (p).ttl, .int .u8 (p).proto, .int .u32 (p).src, .int .u32 (p).dst, .slice A1 n1 c1, .slice A2 n2 c2])] w (TtPost w (tuP q a0 b0 F) F) := by
  have htu : ∀ a b, (F = 0 → a = a0 ∧ b = b0) → ∀ C1 e1 f1 C2 e2 f2 W, Calls Try.prog 43 #[(.agg #[.int .u8 (q).tos, .int .u16 (q).id, .bool (q).keep, .int .u8 (q).ttl, .int .u8 (q).proto, .int .u32 (q).src, .int .u32 (q).dst, .slice C1 e1 f1, .slice C2 e2 f2]), .agg #[.int .u16 a, .int .u16 b], .int .i64 F] W (TtPost W (tuP q a0 b0 F) F) := fun a b hab C1 e1 f1 C2 e2 f2 W => by
    have h := tupled_any q C1 e1 f1 C2 e2 f2 a b F W
    have e : tuP q a b F = tuP q a0 b0 F := by
      unfold tuP
      by_cases h0 : F = 0
      · obtain ⟨rfl, rfl⟩ := hab h0; rfl
      · rw [if_pos h0, if_pos h0]
    rw [e] at h
    exact h
  obtain ⟨T, hT'⟩ : ∃ T, tuP q a0 b0 F = T := ⟨_, rfl⟩
  rw [hT'] at htu
  rw [hT']
  clear hT'
  have hrun : ∀ (W : World) (r : Nat), W.heap[r]? = some (.map (kn 4) 4) → (Instr.lookup 84 (.map (some r)) (.int .u8 q.proto) true).run Try.prog W = .ok (.tuple #[.agg #[.func (.func 74) #[] #[], .func (.func 72) #[] #[]], .bool true]) W := hkn
  clear hkn
  obtain ⟨k, hk⟩ : ∃ k : Nat, w.heap.size = k := ⟨_, rfl⟩
  obtain ⟨w1, hw1⟩ : ∃ W, ((w.alloc (.cells #[.int .u8 (p).tos, .int .u16 (p).id, .bool (p).keep, .int .u8 (p).ttl, .int .u8 (p).proto, .int .u32 (p).src, .int .u32 (p).dst, .slice A1 n1 c1, .slice A2 n2 c2] 26)).alloc (.cells #[.int .u8 0, .int .u32 0, .int .u32 0, .int .u16 0, .int .u16 0] 28)) = W := ⟨_, rfl⟩
  have P1 : Blk w1 k #[.int .u8 (p).tos, .int .u16 (p).id, .bool (p).keep, .int .u8 (p).ttl, .int .u8 (p).proto, .int .u32 (p).src, .int .u32 (p).dst, .slice A1 n1 c1, .slice A2 n2 c2] 26 := by rw [← hw1]; exact ((blk_new _ _ _ k (by simp [hk])).alloc _)
  have Z1 : Blk w1 (k + 1) #[.int .u8 0, .int .u32 0, .int .u32 0, .int .u16 0, .int .u16 0] 28 := by rw [← hw1]; exact (blk_new _ _ _ (k + 1) (by simp [hk]))
  have R1 : Below w.heap.size w w1 := by rw [← hw1]; (repeat (first | with_reducible exact Below.refl _ _ | with_reducible refine below_drew ?_ | with_reducible refine below_drewN ?_ _ | with_reducible refine below_alloc ?_ (Nat.le_refl _) _ | with_reducible refine Below.setCell ?_ (by first | exact Nat.le_refl _ | (simp only []; omega)) _ | with_reducible assumption))
  have Pc1 := P1.cell
  have Zc1 := Z1.cell
  have Pl1 := P1.lt
  have Zl1 := Z1.lt
  have x1 := (k2).below R1
  go_enter Try.func31, Try.ntmps31
  go_wp2_with (first
    | (go_at_call 32; ((with_reducible refine (ht w1 x1).mono ?_); rintro e u2 ⟨⟨DA, dn, dc, rfl, ho, hB2⟩⟩); (obtain ⟨w2, hw2⟩ : ∃ W, u2.alloc (.cells #[.int .u8 (s).ty, .int .u8 (s).code, .int .u32 (s).rest, .slice DA dn dc] 42) = W := ⟨_, rfl⟩); have V2 : Below u2.heap.size u2 w2 := (by rw [← hw2]; (repeat (first | with_reducible exact Below.refl _ _ | with_reducible refine below_drew ?_ | with_reducible refine below_drewN ?_ _ | with_reducible refine below_alloc ?_ (Nat.le_refl _) _ | with_reducible refine Below.setCell ?_ (by first | exact Nat.le_refl _ | (simp only []; omega)) _ | with_reducible assumption))); (obtain ⟨kS2, hkS2⟩ : ∃ k : Nat, u2.heap.size = k := ⟨_, rfl⟩); have S2 : Blk w2 kS2 #[.int .u8 (s).ty, .int .u8 (s).code, .int .u32 (s).rest, .slice DA dn dc] 42 := (by rw [← hw2]; exact blk_new u2 _ _ _ hkS2); have Sc2 := S2.cell; have T2 := below_then hB2 V2; have y2 := (ho.bs).below V2; have P2 := P1.below T2; have Pc2 := P2.cell; clear Pc1; have Z2 := Z1.below T2; have Zc2 := Z2.cell; clear Zc1; have x2 := x1.below T2; have R2 := below_then R1 T2)
    | (go_at_call 57; ((with_reducible refine (he DA dn dc w2).mono ?_); rintro e w3 ⟨rfl, hB3⟩); have P3 := P2.below hB3; have Pc3 := P3.cell; clear Pc2; have Z3 := Z2.below hB3; have Zc3 := Z3.cell; clear Zc2; have S3 := S2.below hB3; have Sc3 := S3.cell; clear Sc2; have x3 := x2.below hB3; have y3 := y2.below hB3; have R3 := below_then R2 hB3)
    | (go_at_call 33; ((with_reducible refine (hq DA dn dc w3 y3).mono ?_); rintro e u4 ⟨C1, e1, f1, C2, e2, f2, rfl, kq1, kq2, hB4⟩); (obtain ⟨w4, hw4⟩ : ∃ W, u4.alloc (.cells #[.int .u8 (q).tos, .int .u16 (q).id, .bool (q).keep, .int .u8 (q).ttl, .int .u8 (q).proto, .int .u32 (q).src, .int .u32 (q).dst, .slice C1 e1 f1, .slice C2 e2 f2] 26) = W := ⟨_, rfl⟩); have V4 : Below u4.heap.size u4 w4 := (by rw [← hw4]; (repeat (first | with_reducible exact Below.refl _ _ | with_reducible refine below_drew ?_ | with_reducible refine below_drewN ?_ _ | with_reducible refine below_alloc ?_ (Nat.le_refl _) _ | with_reducible refine Below.setCell ?_ (by first | exact Nat.le_refl _ | (simp only []; omega)) _ | with_reducible assumption))); (obtain ⟨kG4, hkG4⟩ : ∃ k : Nat, u4.heap.size = k := ⟨_, rfl⟩); have G4 : Blk w4 kG4 #[.int .u8 (q).tos, .int .u16 (q).id, .bool (q).keep, .int .u8 (q).ttl, .int .u8 (q).proto, .int .u32 (q).src, .int .u32 (q).dst, .slice C1 e1 f1, .slice C2 e2 f2] 26 := (by rw [← hw4]; exact blk_new u4 _ _ _ hkG4); have Gc4 := G4.cell; have T4 := below_then hB4 V4; have z4 := (kq2).below V4; have P4 := P3.below T4; have Pc4 := P4.cell; clear Pc3; have Z4 := Z3.below T4; have Zc4 := Z4.cell; clear Zc3; have S4 := S3.below T4; have Sc4 := S4.cell; clear Sc3; have x4 := x3.below T4; have y4 := y3.below T4; have R4 := below_then R3 T4))
  refine region_z 8 6 (by kernel_rfl) (by kernel_rfl) (fun _ _ _ _ _ h => h) ?_; (iterate 8 (first | (apply ObsK.skip (by rfl)) | (apply ObsK.v (by rfl); (intro wo hT; (repeat (first | (intro v hv; ((obtain ⟨r, rfl, hm⟩ := hv; have hlk := hrun _ r hm))) | (intro _ _ k; try have hcv := cv k))); (have gc := (G4.below hT).cell; have hsz : w4.heap.size ≤ wo.heap.size := hT.size); refine Goes.mk ?_; go_simp; first | exact goes_v | exact goes_b (by assumption) | exact goes_new hsz | (refine goes_enter ?_; first | (go_at_call 42; ((with_reducible refine (known_any wo).mono ?_); rintro e w9 ⟨rfl, rfl⟩); exact ret_isKn)))) | (apply ObsK.b (by rfl); (intro wo hT; (repeat (first | (intro v hv; ((obtain ⟨r, rfl, hm⟩ := hv; have hlk := hrun _ r hm))) | (intro _ _ k; try have hcv := cv k))); (have gc := (G4.below hT).cell; have hsz : w4.heap.size ≤ wo.heap.size := hT.size); refine Goes.mk ?_; go_simp; first | exact goes_v | exact goes_b (by assumption) | exact goes_new hsz | (refine goes_enter ?_; first | (go_at_call 42; ((with_reducible refine (known_any wo).mono ?_); rintro e w9 ⟨rfl, rfl⟩); exact ret_isKn)))) | (apply ObsK.p (q := isKn) (by rfl) st_isKn; (intro wo hT; (repeat (first | (intro v hv; ((obtain ⟨r, rfl, hm⟩ := hv; have hlk := hrun _ r hm))) | (intro _ _ k; try have hcv := cv k))); (have gc := (G4.below hT).cell; have hsz : w4.heap.size ≤ wo.heap.size := hT.size); refine Goes.mk ?_; go_simp; first | exact goes_v | exact goes_b (by assumption) | exact goes_new hsz | (refine goes_enter ?_; first | (go_at_call 42; ((with_reducible refine (known_any wo).mono ?_); rintro e w9 ⟨rfl, rfl⟩); exact ret_isKn)))) | (apply ObsK.p (q := isNew w4.heap.size #[.nilFunc, .nilFunc] 82) (by rfl) st_isNew; (intro wo hT; (repeat (first | (intro v hv; ((obtain ⟨r, rfl, hm⟩ := hv; have hlk := hrun _ r hm))) | (intro _ _ k; try have hcv := cv k))); (have gc := (G4.below hT).cell; have hsz : w4.heap.size ≤ wo.heap.size := hT.size); refine Goes.mk ?_; go_simp; first | exact goes_v | exact goes_b (by assumption) | exact goes_new hsz | (refine goes_enter ?_; first | (go_at_call 42; ((with_reducible refine (known_any wo).mono ?_); rintro e w9 ⟨rfl, rfl⟩); exact ret_isKn)))))); refine ObsK.nil ?_; intro wz hBz; simp only [finOn, List.drop_succ_cons, List.drop_zero, List.drop_nil]
  rintro _ ⟨gS, rfl, hS, S5⟩ _ ⟨m, rfl, -⟩
  go_simp
  obtain ⟨wq, hwq, Sq⟩ := store2 S5 (.func (.func 74) #[] #[]) (.func (.func 72) #[] #[])
  have hBq := Sq.bel hBz hS
  have cS5 := S5.cell
  have hsf : ∀ (W : World) (a : Addr) (fn : Fn) (m : Mode), (store a (.func fn #[] #[]) m).run Try.prog W = stored Try.prog W a (.func fn #[] #[]) m := fun W a fn m => run_store _ W a _ m rfl
  have V5 := Sq.blk
  have Vc5 := V5.cell
  have P5 := P4.below hBq
  have Pc5 := P5.cell
  clear Pc4
  have Z5 := Z4.below hBq
  have Zc5 := Z5.cell
  clear Zc4
  have S5 := S4.below hBq
  have Sc5 := S5.cell
  clear Sc4
  have G5 := G4.below hBq
  have Gc5 := G5.cell
  clear Gc4
  have x5 := x4.below hBq
  have y5 := y4.below hBq
  have z5 := z4.below hBq
  have R5 := below_then R4 hBq
  go_wp2_with (first
    | (go_at_call 72; ((with_reducible refine (hw wq C1 e1 f1 C2 e2 f2 z5).mono ?_); rintro e u6 ⟨⟨pa, pb, rfl, hab, hB6⟩⟩); (obtain ⟨w6, hw6⟩ : ∃ W, u6.alloc (.cells #[.int .u16 pa, .int .u16 pb] 87) = W := ⟨_, rfl⟩); have V6 : Below u6.heap.size u6 w6 := (by rw [← hw6]; (repeat (first | with_reducible exact Below.refl _ _ | with_reducible refine below_drew ?_ | with_reducible refine below_drewN ?_ _ | with_reducible refine below_alloc ?_ (Nat.le_refl _) _ | with_reducible refine Below.setCell ?_ (by first | exact Nat.le_refl _ | (simp only []; omega)) _ | with_reducible assumption))); (obtain ⟨kQ6, hkQ6⟩ : ∃ k : Nat, u6.heap.size = k := ⟨_, rfl⟩); have Q6 : Blk w6 kQ6 #[.int .u16 pa, .int .u16 pb] 87 := (by rw [← hw6]; exact blk_new u6 _ _ _ hkQ6); have Qc6 := Q6.cell; have T6 := below_then hB6 V6; have P6 := P5.below T6; have Pc6 := P6.cell; clear Pc5; have Z6 := Z5.below T6; have Zc6 := Z6.cell; clear Zc5; have S6 := S5.below T6; have Sc6 := S6.cell; clear Sc5; have G6 := G5.below T6; have Gc6 := G6.cell; clear Gc5; have V6 := V5.below T6; have Vc6 := V6.cell; clear Vc5; have x6 := x5.below T6; have y6 := y5.below T6; have z6 := z5.below T6; have R6 := below_then R5 T6)
    | (go_at_call 43; ((with_reducible refine (htu pa pb hab C1 e1 f1 C2 e2 f2 w6).mono ?_); rintro e w7 ⟨⟨rfl, hB7⟩⟩); have P7 := P6.below hB7; have Pc7 := P7.cell; clear Pc6; have Z7 := Z6.below hB7; have Zc7 := Z7.cell; clear Zc6; have S7 := S6.below hB7; have Sc7 := S7.cell; clear Sc6; have G7 := G6.below hB7; have Gc7 := G7.cell; clear Gc6; have V7 := V6.below hB7; have Vc7 := V7.cell; clear Vc6; have Q7 := Q6.below hB7; have Qc7 := Q7.cell; clear Qc6; have x7 := x6.below hB7; have y7 := y6.below hB7; have z7 := z6.below hB7; have R7 := below_then R6 hB7))
  obtain ⟨wf, hwf, Sf⟩ := store5 Z7 (.int .u8 T.proto) (.int .u32 T.src) (.int .u32 T.dst) (.int .u16 T.sp) (.int .u16 T.dp)
  rw [hwf]
  have pf := Sf.blk.cell
  exact bodyPost_ret (v := .tuple #[(.agg #[.int .u8 (T).proto, .int .u32 (T).src, .int .u32 (T).dst, .int .u16 (T).sp, .int .u16 (T).dp]), .int .i64 F]) (by simp [results, Try.results31, go_sem, pf, zT]) rfl ⟨⟨rfl, Sf.bel R7 (by omega)⟩⟩

theorem quo_icmp (p : Pkt) (A1 : Option Addr) (n1 c1 : Nat) (A2 : Option Addr) (n2 c2 : Nat) (w : World) (k2 : Bs w A2 n2 c2 p.dat) (s : Msg)  (ht : ∀ W, Bs W A2 n2 c2 p.dat → Calls Try.prog 32 #[(.agg #[.int .u8 (p).tos, .int .u16 (p).id, .bool (p).keep, .int .u8 (p).ttl, .int .u8 (p).proto, .int .u32 (p).src, .int .u32 (p).dst, .slice A1 n1 c1, .slice A2 n2 c2])] W (MsPost W s 0))  (he : ∀ B b1 b2 W, Calls Try.prog 57 #[(.agg #[.int .u8 (s).ty, .int .u8 (s).code, .int .u32 (s).rest, .slice B b1 b2])] W fun e w' => e = .returned (.bool true) ∧ Below W.heap.size W w') (q : Pkt)  (hq : ∀ B b1 b2 W, Bs W B b1 b2 s.dat → Calls Try.prog 33 #[.slice B b1 b2] W fun e w' => ∃ C1 e1 f1 C2 e2 f2, e = .returned (.tuple #[(.agg #[.int .u8 (q).tos, .int .u16 (q).id, .bool (q).keep, .int .u8 (q).ttl, .int .u8 (q).proto, .int .u32 (q).src, .int .u32 (q).dst, .slice C1 e1 f1, .slice C2 e2 f2]), .int .i64 0]) ∧ Bs w' C1 e1 f1 q.opt ∧ Bs w' C2 e2 f2 q.dat ∧ Below W.heap.size W w') (hkn : ∀ (W : World) (r : Nat), W.heap[r]? = some (.map (kn 4) 4) → (Instr.lookup 84 (.map (some r)) (.int .u8 q.proto) true).run Try.prog W = .ok (.tuple #[.agg #[.func (.func 75) #[] #[], .func (.func 76) #[] #[]], .bool true]) W) (a0 b0 F : Int)
    (hw : ∀ W C1 e1 f1 C2 e2 f2, Bs W C2 e2 f2 q.dat → Calls Try.prog 76 #[(.agg #[.int .u8 (q).tos, .int .u16 (q).id, .bool (q).keep, .int .u8 (q).ttl, .int .u8 (q).proto, .int .u32 (q).src, .int .u32 (q).dst, .slice C1 e1 f1, .slice C2 e2 f2])] W (WyPost W a0 b0 F)) :
    Calls Try.prog 31 #[(.agg #[.int .u8 (p).tos, .int .u16 (p).id, .bool (p).keep, .int .u8 (p).ttl, .int .u8 (p).proto, .int .u32 (p).src, .int .u32 (p).dst, .slice A1 n1 c1, .slice A2 n2 c2])] w (TtPost w (tuP q a0 b0 F) F) := by
  have htu : ∀ a b, (F = 0 → a = a0 ∧ b = b0) → ∀ C1 e1 f1 C2 e2 f2 W, Calls Try.prog 43 #[(.agg #[.int .u8 (q).tos, .int .u16 (q).id, .bool (q).keep, .int .u8 (q).ttl, .int .u8 (q).proto, .int .u32 (q).src, .int .u32 (q).dst, .slice C1 e1 f1, .slice C2 e2 f2]), .agg #[.int .u16 a, .int .u16 b], .int .i64 F] W (TtPost W (tuP q a0 b0 F) F) := fun a b hab C1 e1 f1 C2 e2 f2 W => by
    have h := tupled_any q C1 e1 f1 C2 e2 f2 a b F W
    have e : tuP q a b F = tuP q a0 b0 F := by
      unfold tuP
      by_cases h0 : F = 0
      · obtain ⟨rfl, rfl⟩ := hab h0; rfl
      · rw [if_pos h0, if_pos h0]
    rw [e] at h
    exact h
  obtain ⟨T, hT'⟩ : ∃ T, tuP q a0 b0 F = T := ⟨_, rfl⟩
  rw [hT'] at htu
  rw [hT']
  clear hT'
  have hrun : ∀ (W : World) (r : Nat), W.heap[r]? = some (.map (kn 4) 4) → (Instr.lookup 84 (.map (some r)) (.int .u8 q.proto) true).run Try.prog W = .ok (.tuple #[.agg #[.func (.func 75) #[] #[], .func (.func 76) #[] #[]], .bool true]) W := hkn
  clear hkn
  obtain ⟨k, hk⟩ : ∃ k : Nat, w.heap.size = k := ⟨_, rfl⟩
  obtain ⟨w1, hw1⟩ : ∃ W, ((w.alloc (.cells #[.int .u8 (p).tos, .int .u16 (p).id, .bool (p).keep, .int .u8 (p).ttl, .int .u8 (p).proto, .int .u32 (p).src, .int .u32 (p).dst, .slice A1 n1 c1, .slice A2 n2 c2] 26)).alloc (.cells #[.int .u8 0, .int .u32 0, .int .u32 0, .int .u16 0, .int .u16 0] 28)) = W := ⟨_, rfl⟩
  have P1 : Blk w1 k #[.int .u8 (p).tos, .int .u16 (p).id, .bool (p).keep, .int .u8 (p).ttl, .int .u8 (p).proto, .int .u32 (p).src, .int .u32 (p).dst, .slice A1 n1 c1, .slice A2 n2 c2] 26 := by rw [← hw1]; exact ((blk_new _ _ _ k (by simp [hk])).alloc _)
  have Z1 : Blk w1 (k + 1) #[.int .u8 0, .int .u32 0, .int .u32 0, .int .u16 0, .int .u16 0] 28 := by rw [← hw1]; exact (blk_new _ _ _ (k + 1) (by simp [hk]))
  have R1 : Below w.heap.size w w1 := by rw [← hw1]; (repeat (first | with_reducible exact Below.refl _ _ | with_reducible refine below_drew ?_ | with_reducible refine below_drewN ?_ _ | with_reducible refine below_alloc ?_ (Nat.le_refl _) _ | with_reducible refine Below.setCell ?_ (by first | exact Nat.le_refl _ | (simp only []; omega)) _ | with_reducible assumption))
  have Pc1 := P1.cell
  have Zc1 := Z1.cell
  have Pl1 := P1.lt
  have Zl1 := Z1.lt
  have x1 := (k2).below R1
  go_enter Try.func31, Try.ntmps31
  go_wp2_with (first
    | (go_at_call 32; ((with_reducible refine (ht w1 x1).mono ?_); rintro e u2 ⟨⟨DA, dn, dc, rfl, ho, hB2⟩⟩); (obtain ⟨w2, hw2⟩ : ∃ W, u2.alloc (.cells #[.int .u8 (s).ty, .int .u8 (s).code, .int .u32 (s).rest, .slice DA dn dc] 42) = W := ⟨_, rfl⟩); have V2 : Below u2.heap.size u2 w2 := (by rw [← hw2]; (repeat (first | with_reducible exact Below.refl _ _ | with_reducible refine below_drew ?_ | with_reducible refine below_drewN ?_ _ | with_reducible refine below_alloc ?_ (Nat.le_refl _) _ | with_reducible refine Below.setCell ?_ (by first | exact Nat.le_refl _ | (simp only []; omega)) _ | with_reducible assumption))); (obtain ⟨kS2, hkS2⟩ : ∃ k : Nat, u2.heap.size = k := ⟨_, rfl⟩); have S2 : Blk w2 kS2 #[.int .u8 (s).ty, .int .u8 (s).code, .int .u32 (s).rest, .slice DA dn dc] 42 := (by rw [← hw2]; exact blk_new u2 _ _ _ hkS2); have Sc2 := S2.cell; have T2 := below_then hB2 V2; have y2 := (ho.bs).below V2; have P2 := P1.below T2; have Pc2 := P2.cell; clear Pc1; have Z2 := Z1.below T2; have Zc2 := Z2.cell; clear Zc1; have x2 := x1.below T2; have R2 := below_then R1 T2)
    | (go_at_call 57; ((with_reducible refine (he DA dn dc w2).mono ?_); rintro e w3 ⟨rfl, hB3⟩); have P3 := P2.below hB3; have Pc3 := P3.cell; clear Pc2; have Z3 := Z2.below hB3; have Zc3 := Z3.cell; clear Zc2; have S3 := S2.below hB3; have Sc3 := S3.cell; clear Sc2; have x3 := x2.below hB3; have y3 := y2.below hB3; have R3 := below_then R2 hB3)
    | (go_at_call 33; ((with_reducible refine (hq DA dn dc w3 y3).mono ?_); rintro e u4 ⟨C1, e1, f1, C2, e2, f2, rfl, kq1, kq2, hB4⟩); (obtain ⟨w4, hw4⟩ : ∃ W, u4.alloc (.cells #[.int .u8 (q).tos, .int .u16 (q).id, .bool (q).keep, .int .u8 (q).ttl, .int .u8 (q).proto, .int .u32 (q).src, .int .u32 (q).dst, .slice C1 e1 f1, .slice C2 e2 f2] 26) = W := ⟨_, rfl⟩); have V4 : Below u4.heap.size u4 w4 := (by rw [← hw4]; (repeat (first | with_reducible exact Below.refl _ _ | with_reducible refine below_drew ?_ | with_reducible refine below_drewN ?_ _ | with_reducible refine below_alloc ?_ (Nat.le_refl _) _ | with_reducible refine Below.setCell ?_ (by first | exact Nat.le_refl _ | (simp only []; omega)) _ | with_reducible assumption))); (obtain ⟨kG4, hkG4⟩ : ∃ k : Nat, u4.heap.size = k := ⟨_, rfl⟩); have G4 : Blk w4 kG4 #[.int .u8 (q).tos, .int .u16 (q).id, .bool (q).keep, .int .u8 (q).ttl, .int .u8 (q).proto, .int .u32 (q).src, .int .u32 (q).dst, .slice C1 e1 f1, .slice C2 e2 f2] 26 := (by rw [← hw4]; exact blk_new u4 _ _ _ hkG4); have Gc4 := G4.cell; have T4 := below_then hB4 V4; have z4 := (kq2).below V4; have P4 := P3.below T4; have Pc4 := P4.cell; clear Pc3; have Z4 := Z3.below T4; have Zc4 := Z4.cell; clear Zc3; have S4 := S3.below T4; have Sc4 := S4.cell; clear Sc3; have x4 := x3.below T4; have y4 := y3.below T4; have R4 := below_then R3 T4))
  refine region_z 8 6 (by kernel_rfl) (by kernel_rfl) (fun _ _ _ _ _ h => h) ?_; (iterate 8 (first | (apply ObsK.skip (by rfl)) | (apply ObsK.v (by rfl); (intro wo hT; (repeat (first | (intro v hv; ((obtain ⟨r, rfl, hm⟩ := hv; have hlk := hrun _ r hm))) | (intro _ _ k; try have hcv := cv k))); (have gc := (G4.below hT).cell; have hsz : w4.heap.size ≤ wo.heap.size := hT.size); refine Goes.mk ?_; go_simp; first | exact goes_v | exact goes_b (by assumption) | exact goes_new hsz | (refine goes_enter ?_; first | (go_at_call 42; ((with_reducible refine (known_any wo).mono ?_); rintro e w9 ⟨rfl, rfl⟩); exact ret_isKn)))) | (apply ObsK.b (by rfl); (intro wo hT; (repeat (first | (intro v hv; ((obtain ⟨r, rfl, hm⟩ := hv; have hlk := hrun _ r hm))) | (intro _ _ k; try have hcv := cv k))); (have gc := (G4.below hT).cell; have hsz : w4.heap.size ≤ wo.heap.size := hT.size); refine Goes.mk ?_; go_simp; first | exact goes_v | exact goes_b (by assumption) | exact goes_new hsz | (refine goes_enter ?_; first | (go_at_call 42; ((with_reducible refine (known_any wo).mono ?_); rintro e w9 ⟨rfl, rfl⟩); exact ret_isKn)))) | (apply ObsK.p (q := isKn) (by rfl) st_isKn; (intro wo hT; (repeat (first | (intro v hv; ((obtain ⟨r, rfl, hm⟩ := hv; have hlk := hrun _ r hm))) | (intro _ _ k; try have hcv := cv k))); (have gc := (G4.below hT).cell; have hsz : w4.heap.size ≤ wo.heap.size := hT.size); refine Goes.mk ?_; go_simp; first | exact goes_v | exact goes_b (by assumption) | exact goes_new hsz | (refine goes_enter ?_; first | (go_at_call 42; ((with_reducible refine (known_any wo).mono ?_); rintro e w9 ⟨rfl, rfl⟩); exact ret_isKn)))) | (apply ObsK.p (q := isNew w4.heap.size #[.nilFunc, .nilFunc] 82) (by rfl) st_isNew; (intro wo hT; (repeat (first | (intro v hv; ((obtain ⟨r, rfl, hm⟩ := hv; have hlk := hrun _ r hm))) | (intro _ _ k; try have hcv := cv k))); (have gc := (G4.below hT).cell; have hsz : w4.heap.size ≤ wo.heap.size := hT.size); refine Goes.mk ?_; go_simp; first | exact goes_v | exact goes_b (by assumption) | exact goes_new hsz | (refine goes_enter ?_; first | (go_at_call 42; ((with_reducible refine (known_any wo).mono ?_); rintro e w9 ⟨rfl, rfl⟩); exact ret_isKn)))))); refine ObsK.nil ?_; intro wz hBz; simp only [finOn, List.drop_succ_cons, List.drop_zero, List.drop_nil]
  rintro _ ⟨gS, rfl, hS, S5⟩ _ ⟨m, rfl, -⟩
  go_simp
  obtain ⟨wq, hwq, Sq⟩ := store2 S5 (.func (.func 75) #[] #[]) (.func (.func 76) #[] #[])
  have hBq := Sq.bel hBz hS
  have cS5 := S5.cell
  have hsf : ∀ (W : World) (a : Addr) (fn : Fn) (m : Mode), (store a (.func fn #[] #[]) m).run Try.prog W = stored Try.prog W a (.func fn #[] #[]) m := fun W a fn m => run_store _ W a _ m rfl
  have V5 := Sq.blk
  have Vc5 := V5.cell
  have P5 := P4.below hBq
  have Pc5 := P5.cell
  clear Pc4
  have Z5 := Z4.below hBq
  have Zc5 := Z5.cell
  clear Zc4
  have S5 := S4.below hBq
  have Sc5 := S5.cell
  clear Sc4
  have G5 := G4.below hBq
  have Gc5 := G5.cell
  clear Gc4
  have x5 := x4.below hBq
  have y5 := y4.below hBq
  have z5 := z4.below hBq
  have R5 := below_then R4 hBq
  go_wp2_with (first
    | (go_at_call 76; ((with_reducible refine (hw wq C1 e1 f1 C2 e2 f2 z5).mono ?_); rintro e u6 ⟨⟨pa, pb, rfl, hab, hB6⟩⟩); (obtain ⟨w6, hw6⟩ : ∃ W, u6.alloc (.cells #[.int .u16 pa, .int .u16 pb] 87) = W := ⟨_, rfl⟩); have V6 : Below u6.heap.size u6 w6 := (by rw [← hw6]; (repeat (first | with_reducible exact Below.refl _ _ | with_reducible refine below_drew ?_ | with_reducible refine below_drewN ?_ _ | with_reducible refine below_alloc ?_ (Nat.le_refl _) _ | with_reducible refine Below.setCell ?_ (by first | exact Nat.le_refl _ | (simp only []; omega)) _ | with_reducible assumption))); (obtain ⟨kQ6, hkQ6⟩ : ∃ k : Nat, u6.heap.size = k := ⟨_, rfl⟩); have Q6 : Blk w6 kQ6 #[.int .u16 pa, .int .u16 pb] 87 := (by rw [← hw6]; exact blk_new u6 _ _ _ hkQ6); have Qc6 := Q6.cell; have T6 := below_then hB6 V6; have P6 := P5.below T6; have Pc6 := P6.cell; clear Pc5; have Z6 := Z5.below T6; have Zc6 := Z6.cell; clear Zc5; have S6 := S5.below T6; have Sc6 := S6.cell; clear Sc5; have G6 := G5.below T6; have Gc6 := G6.cell; clear Gc5; have V6 := V5.below T6; have Vc6 := V6.cell; clear Vc5; have x6 := x5.below T6; have y6 := y5.below T6; have z6 := z5.below T6; have R6 := below_then R5 T6)
    | (go_at_call 43; ((with_reducible refine (htu pa pb hab C1 e1 f1 C2 e2 f2 w6).mono ?_); rintro e w7 ⟨⟨rfl, hB7⟩⟩); have P7 := P6.below hB7; have Pc7 := P7.cell; clear Pc6; have Z7 := Z6.below hB7; have Zc7 := Z7.cell; clear Zc6; have S7 := S6.below hB7; have Sc7 := S7.cell; clear Sc6; have G7 := G6.below hB7; have Gc7 := G7.cell; clear Gc6; have V7 := V6.below hB7; have Vc7 := V7.cell; clear Vc6; have Q7 := Q6.below hB7; have Qc7 := Q7.cell; clear Qc6; have x7 := x6.below hB7; have y7 := y6.below hB7; have z7 := z6.below hB7; have R7 := below_then R6 hB7))
  obtain ⟨wf, hwf, Sf⟩ := store5 Z7 (.int .u8 T.proto) (.int .u32 T.src) (.int .u32 T.dst) (.int .u16 T.sp) (.int .u16 T.dp)
  rw [hwf]
  have pf := Sf.blk.cell
  exact bodyPost_ret (v := .tuple #[(.agg #[.int .u8 (T).proto, .int .u32 (T).src, .int .u32 (T).dst, .int .u16 (T).sp, .int .u16 (T).dp]), .int .i64 F]) (by simp [results, Try.results31, go_sem, pf, zT]) rfl ⟨⟨rfl, Sf.bel R7 (by omega)⟩⟩

theorem quo_gre (p : Pkt) (A1 : Option Addr) (n1 c1 : Nat) (A2 : Option Addr) (n2 c2 : Nat) (w : World) (k2 : Bs w A2 n2 c2 p.dat) (s : Msg)  (ht : ∀ W, Bs W A2 n2 c2 p.dat → Calls Try.prog 32 #[(.agg #[.int .u8 (p).tos, .int .u16 (p).id, .bool (p).keep, .int .u8 (p).ttl, .int .u8 (p).proto, .int .u32 (p).src, .int .u32 (p).dst, .slice A1 n1 c1, .slice A2 n2 c2])] W (MsPost W s 0))  (he : ∀ B b1 b2 W, Calls Try.prog 57 #[(.agg #[.int .u8 (s).ty, .int .u8 (s).code, .int .u32 (s).rest, .slice B b1 b2])] W fun e w' => e = .returned (.bool true) ∧ Below W.heap.size W w') (q : Pkt)  (hq : ∀ B b1 b2 W, Bs W B b1 b2 s.dat → Calls Try.prog 33 #[.slice B b1 b2] W fun e w' => ∃ C1 e1 f1 C2 e2 f2, e = .returned (.tuple #[(.agg #[.int .u8 (q).tos, .int .u16 (q).id, .bool (q).keep, .int .u8 (q).ttl, .int .u8 (q).proto, .int .u32 (q).src, .int .u32 (q).dst, .slice C1 e1 f1, .slice C2 e2 f2]), .int .i64 0]) ∧ Bs w' C1 e1 f1 q.opt ∧ Bs w' C2 e2 f2 q.dat ∧ Below W.heap.size W w') (hkn : ∀ (W : World) (r : Nat), W.heap[r]? = some (.map (kn 4) 4) → (Instr.lookup 84 (.map (some r)) (.int .u8 q.proto) true).run Try.prog W = .ok (.tuple #[.agg #[.func (.func 77) #[] #[], .func (.func 78) #[] #[]], .bool true]) W) (a0 b0 F : Int)
    (hw : ∀ W C1 e1 f1 C2 e2 f2, Bs W C2 e2 f2 q.dat → Calls Try.prog 78 #[(.agg #[.int .u8 (q).tos, .int .u16 (q).id, .bool (q).keep, .int .u8 (q).ttl, .int .u8 (q).proto, .int .u32 (q).src, .int .u32 (q).dst, .slice C1 e1 f1, .slice C2 e2 f2])] W (WyPost W a0 b0 F)) :
    Calls Try.prog 31 #[(.agg #[.int .u8 (p).tos, .int .u16 (p).id, .bool (p).keep, .int .u8 (p).ttl, .int .u8 (p).proto, .int .u32 (p).src, .int .u32 (p).dst, .slice A1 n1 c1, .slice A2 n2 c2])] w (TtPost w (tuP q a0 b0 F) F) := by
  have htu : ∀ a b, (F = 0 → a = a0 ∧ b = b0) → ∀ C1 e1 f1 C2 e2 f2 W, Calls Try.prog 43 #[(.agg #[.int .u8 (q).tos, .int .u16 (q).id, .bool (q).keep, .int .u8 (q).ttl, .int .u8 (q).proto, .int .u32 (q).src, .int .u32 (q).dst, .slice C1 e1 f1, .slice C2 e2 f2]), .agg #[.int .u16 a, .int .u16 b], .int .i64 F] W (TtPost W (tuP q a0 b0 F) F) := fun a b hab C1 e1 f1 C2 e2 f2 W => by
    have h := tupled_any q C1 e1 f1 C2 e2 f2 a b F W
    have e : tuP q a b F = tuP q a0 b0 F := by
      unfold tuP
      by_cases h0 : F = 0
      · obtain ⟨rfl, rfl⟩ := hab h0; rfl
      · rw [if_pos h0, if_pos h0]
    rw [e] at h
    exact h
  obtain ⟨T, hT'⟩ : ∃ T, tuP q a0 b0 F = T := ⟨_, rfl⟩
  rw [hT'] at htu
  rw [hT']
  clear hT'
  have hrun : ∀ (W : World) (r : Nat), W.heap[r]? = some (.map (kn 4) 4) → (Instr.lookup 84 (.map (some r)) (.int .u8 q.proto) true).run Try.prog W = .ok (.tuple #[.agg #[.func (.func 77) #[] #[], .func (.func 78) #[] #[]], .bool true]) W := hkn
  clear hkn
  obtain ⟨k, hk⟩ : ∃ k : Nat, w.heap.size = k := ⟨_, rfl⟩
  obtain ⟨w1, hw1⟩ : ∃ W, ((w.alloc (.cells #[.int .u8 (p).tos, .int .u16 (p).id, .bool (p).keep, .int .u8 (p).ttl, .int .u8 (p).proto, .int .u32 (p).src, .int .u32 (p).dst, .slice A1 n1 c1, .slice A2 n2 c2] 26)).alloc (.cells #[.int .u8 0, .int .u32 0, .int .u32 0, .int .u16 0, .int .u16 0] 28)) = W := ⟨_, rfl⟩
  have P1 : Blk w1 k #[.int .u8 (p).tos, .int .u16 (p).id, .bool (p).keep, .int .u8 (p).ttl, .int .u8 (p).proto, .int .u32 (p).src, .int .u32 (p).dst, .slice A1 n1 c1, .slice A2 n2 c2] 26 := by rw [← hw1]; exact ((blk_new _ _ _ k (by simp [hk])).alloc _)
  have Z1 : Blk w1 (k + 1) #[.int .u8 0, .int .u32 0, .int .u32 0, .int .u16 0, .int .u16 0] 28 := by rw [← hw1]; exact (blk_new _ _ _ (k + 1) (by simp [hk]))
  have R1 : Below w.heap.size w w1 := by rw [← hw1]; (repeat (first | with_reducible exact Below.refl _ _ | with_reducible refine below_drew ?_ | with_reducible refine below_drewN ?_ _ | with_reducible refine below_alloc ?_ (Nat.le_refl _) _ | with_reducible refine Below.setCell ?_ (by first | exact Nat.le_refl _ | (simp only []; omega)) _ | with_reducible assumption))
  have Pc1 := P1.cell
  have Zc1 := Z1.cell
  have Pl1 := P1.lt
  have Zl1 := Z1.lt
  have x1 := (k2).below R1
  go_enter Try.func31, Try.ntmps31
  go_wp2_with (first
    | (go_at_call 32; ((with_reducible refine (ht w1 x1).mono ?_); rintro e u2 ⟨⟨DA, dn, dc, rfl, ho, hB2⟩⟩); (obtain ⟨w2, hw2⟩ : ∃ W, u2.alloc (.cells #[.int .u8 (s).ty, .int .u8 (s).code, .int .u32 (s).rest, .slice DA dn dc] 42) = W := ⟨_, rfl⟩); have V2 : Below u2.heap.size u2 w2 := (by rw [← hw2]; (repeat (first | with_reducible exact Below.refl _ _ | with_reducible refine below_drew ?_ | with_reducible refine below_drewN ?_ _ | with_reducible refine below_alloc ?_ (Nat.le_refl _) _ | with_reducible refine Below.setCell ?_ (by first | exact Nat.le_refl _ | (simp only []; omega)) _ | with_reducible assumption))); (obtain ⟨kS2, hkS2⟩ : ∃ k : Nat, u2.heap.size = k := ⟨_, rfl⟩); have S2 : Blk w2 kS2 #[.int .u8 (s).ty, .int .u8 (s).code, .int .u32 (s).rest, .slice DA dn dc] 42 := (by rw [← hw2]; exact blk_new u2 _ _ _ hkS2); have Sc2 := S2.cell; have T2 := below_then hB2 V2; have y2 := (ho.bs).below V2; have P2 := P1.below T2; have Pc2 := P2.cell; clear Pc1; have Z2 := Z1.below T2; have Zc2 := Z2.cell; clear Zc1; have x2 := x1.below T2; have R2 := below_then R1 T2)
    | (go_at_call 57; ((with_reducible refine (he DA dn dc w2).mono ?_); rintro e w3 ⟨rfl, hB3⟩); have P3 := P2.below hB3; have Pc3 := P3.cell; clear Pc2; have Z3 := Z2.below hB3; have Zc3 := Z3.cell; clear Zc2; have S3 := S2.below hB3; have Sc3 := S3.cell; clear Sc2; have x3 := x2.below hB3; have y3 := y2.below hB3; have R3 := below_then R2 hB3)
    | (go_at_call 33; ((with_reducible refine (hq DA dn dc w3 y3).mono ?_); rintro e u4 ⟨C1, e1, f1, C2, e2, f2, rfl, kq1, kq2, hB4⟩); (obtain ⟨w4, hw4⟩ : ∃ W, u4.alloc (.cells #[.int .u8 (q).tos, .int .u16 (q).id, .bool (q).keep, .int .u8 (q).ttl, .int .u8 (q).proto, .int .u32 (q).src, .int .u32 (q).dst, .slice C1 e1 f1, .slice C2 e2 f2] 26) = W := ⟨_, rfl⟩); have V4 : Below u4.heap.size u4 w4 := (by rw [← hw4]; (repeat (first | with_reducible exact Below.refl _ _ | with_reducible refine below_drew ?_ | with_reducible refine below_drewN ?_ _ | with_reducible refine below_alloc ?_ (Nat.le_refl _) _ | with_reducible refine Below.setCell ?_ (by first | exact Nat.le_refl _ | (simp only []; omega)) _ | with_reducible assumption))); (obtain ⟨kG4, hkG4⟩ : ∃ k : Nat, u4.heap.size = k := ⟨_, rfl⟩); have G4 : Blk w4 kG4 #[.int .u8 (q).tos, .int .u16 (q).id, .bool (q).keep, .int .u8 (q).ttl, .int .u8 (q).proto, .int .u32 (q).src, .int .u32 (q).dst, .slice C1 e1 f1, .slice C2 e2 f2] 26 := (by rw [← hw4]; exact blk_new u4 _ _ _ hkG4); have Gc4 := G4.cell; have T4 := below_then hB4 V4; have z4 := (kq2).below V4; have P4 := P3.below T4; have Pc4 := P4.cell; clear Pc3; have Z4 := Z3.below T4; have Zc4 := Z4.cell; clear Zc3; have S4 := S3.below T4; have Sc4 := S4.cell; clear Sc3; have x4 := x3.below T4; have y4 := y3.below T4; have R4 := below_then R3 T4))
  refine region_z 8 6 (by kernel_rfl) (by kernel_rfl) (fun _ _ _ _ _ h => h) ?_; (iterate 8 (first | (apply ObsK.skip (by rfl)) | (apply ObsK.v (by rfl); (intro wo hT; (repeat (first | (intro v hv; ((obtain ⟨r, rfl, hm⟩ := hv; have hlk := hrun _ r hm))) | (intro _ _ k; try have hcv := cv k))); (have gc := (G4.below hT).cell; have hsz : w4.heap.size ≤ wo.heap.size := hT.size); refine Goes.mk ?_; go_simp; first | exact goes_v | exact goes_b (by assumption) | exact goes_new hsz | (refine goes_enter ?_; first | (go_at_call 42; ((with_reducible refine (known_any wo).mono ?_); rintro e w9 ⟨rfl, rfl⟩); exact ret_isKn)))) | (apply ObsK.b (by rfl); (intro wo hT; (repeat (first | (intro v hv; ((obtain ⟨r, rfl, hm⟩ := hv; have hlk := hrun _ r hm))) | (intro _ _ k; try have hcv := cv k))); (have gc := (G4.below hT).cell; have hsz : w4.heap.size ≤ wo.heap.size := hT.size); refine Goes.mk ?_; go_simp; first | exact goes_v | exact goes_b (by assumption) | exact goes_new hsz | (refine goes_enter ?_; first | (go_at_call 42; ((with_reducible refine (known_any wo).mono ?_); rintro e w9 ⟨rfl, rfl⟩); exact ret_isKn)))) | (apply ObsK.p (q := isKn) (by rfl) st_isKn; (intro wo hT; (repeat (first | (intro v hv; ((obtain ⟨r, rfl, hm⟩ := hv; have hlk := hrun _ r hm))) | (intro _ _ k; try have hcv := cv k))); (have gc := (G4.below hT).cell; have hsz : w4.heap.size ≤ wo.heap.size := hT.size); refine Goes.mk ?_; go_simp; first | exact goes_v | exact goes_b (by assumption) | exact goes_new hsz | (refine goes_enter ?_; first | (go_at_call 42; ((with_reducible refine (known_any wo).mono ?_); rintro e w9 ⟨rfl, rfl⟩); exact ret_isKn)))) | (apply ObsK.p (q := isNew w4.heap.size #[.nilFunc, .nilFunc] 82) (by rfl) st_isNew; (intro wo hT; (repeat (first | (intro v hv; ((obtain ⟨r, rfl, hm⟩ := hv; have hlk := hrun _ r hm))) | (intro _ _ k; try have hcv := cv k))); (have gc := (G4.below hT).cell; have hsz : w4.heap.size ≤ wo.heap.size := hT.size); refine Goes.mk ?_; go_simp; first | exact goes_v | exact goes_b (by assumption) | exact goes_new hsz | (refine goes_enter ?_; first | (go_at_call 42; ((with_reducible refine (known_any wo).mono ?_); rintro e w9 ⟨rfl, rfl⟩); exact ret_isKn)))))); refine ObsK.nil ?_; intro wz hBz; simp only [finOn, List.drop_succ_cons, List.drop_zero, List.drop_nil]
  rintro _ ⟨gS, rfl, hS, S5⟩ _ ⟨m, rfl, -⟩
  go_simp
  obtain ⟨wq, hwq, Sq⟩ := store2 S5 (.func (.func 77) #[] #[]) (.func (.func 78) #[] #[])
  have hBq := Sq.bel hBz hS
  have cS5 := S5.cell
  have hsf : ∀ (W : World) (a : Addr) (fn : Fn) (m : Mode), (store a (.func fn #[] #[]) m).run Try.prog W = stored Try.prog W a (.func fn #[] #[]) m := fun W a fn m => run_store _ W a _ m rfl
  have V5 := Sq.blk
  have Vc5 := V5.cell
  have P5 := P4.below hBq
  have Pc5 := P5.cell
  clear Pc4
  have Z5 := Z4.below hBq
  have Zc5 := Z5.cell
  clear Zc4
  have S5 := S4.below hBq
  have Sc5 := S5.cell
  clear Sc4
  have G5 := G4.below hBq
  have Gc5 := G5.cell
  clear Gc4
  have x5 := x4.below hBq
  have y5 := y4.below hBq
  have z5 := z4.below hBq
  have R5 := below_then R4 hBq
  go_wp2_with (first
    | (go_at_call 78; ((with_reducible refine (hw wq C1 e1 f1 C2 e2 f2 z5).mono ?_); rintro e u6 ⟨⟨pa, pb, rfl, hab, hB6⟩⟩); (obtain ⟨w6, hw6⟩ : ∃ W, u6.alloc (.cells #[.int .u16 pa, .int .u16 pb] 87) = W := ⟨_, rfl⟩); have V6 : Below u6.heap.size u6 w6 := (by rw [← hw6]; (repeat (first | with_reducible exact Below.refl _ _ | with_reducible refine below_drew ?_ | with_reducible refine below_drewN ?_ _ | with_reducible refine below_alloc ?_ (Nat.le_refl _) _ | with_reducible refine Below.setCell ?_ (by first | exact Nat.le_refl _ | (simp only []; omega)) _ | with_reducible assumption))); (obtain ⟨kQ6, hkQ6⟩ : ∃ k : Nat, u6.heap.size = k := ⟨_, rfl⟩); have Q6 : Blk w6 kQ6 #[.int .u16 pa, .int .u16 pb] 87 := (by rw [← hw6]; exact blk_new u6 _ _ _ hkQ6); have Qc6 := Q6.cell; have T6 := below_then hB6 V6; have P6 := P5.below T6; have Pc6 := P6.cell; clear Pc5; have Z6 := Z5.below T6; have Zc6 := Z6.cell; clear Zc5; have S6 := S5.below T6; have Sc6 := S6.cell; clear Sc5; have G6 := G5.below T6; have Gc6 := G6.cell; clear Gc5; have V6 := V5.below T6; have Vc6 := V6.cell; clear Vc5; have x6 := x5.below T6; have y6 := y5.below T6; have z6 := z5.below T6; have R6 := below_then R5 T6)
    | (go_at_call 43; ((with_reducible refine (htu pa pb hab C1 e1 f1 C2 e2 f2 w6).mono ?_); rintro e w7 ⟨⟨rfl, hB7⟩⟩); have P7 := P6.below hB7; have Pc7 := P7.cell; clear Pc6; have Z7 := Z6.below hB7; have Zc7 := Z7.cell; clear Zc6; have S7 := S6.below hB7; have Sc7 := S7.cell; clear Sc6; have G7 := G6.below hB7; have Gc7 := G7.cell; clear Gc6; have V7 := V6.below hB7; have Vc7 := V7.cell; clear Vc6; have Q7 := Q6.below hB7; have Qc7 := Q7.cell; clear Qc6; have x7 := x6.below hB7; have y7 := y6.below hB7; have z7 := z6.below hB7; have R7 := below_then R6 hB7))
  obtain ⟨wf, hwf, Sf⟩ := store5 Z7 (.int .u8 T.proto) (.int .u32 T.src) (.int .u32 T.dst) (.int .u16 T.sp) (.int .u16 T.dp)
  rw [hwf]
  have pf := Sf.blk.cell
  exact bodyPost_ret (v := .tuple #[(.agg #[.int .u8 (T).proto, .int .u32 (T).src, .int .u32 (T).dst, .int .u16 (T).sp, .int .u16 (T).dp]), .int .i64 F]) (by simp [results, Try.results31, go_sem, pf, zT]) rfl ⟨⟨rfl, Sf.bel R7 (by omega)⟩⟩

theorem quo_none (p : Pkt) (A1 : Option Addr) (n1 c1 : Nat) (A2 : Option Addr) (n2 c2 : Nat) (w : World) (k2 : Bs w A2 n2 c2 p.dat) (s : Msg)  (ht : ∀ W, Bs W A2 n2 c2 p.dat → Calls Try.prog 32 #[(.agg #[.int .u8 (p).tos, .int .u16 (p).id, .bool (p).keep, .int .u8 (p).ttl, .int .u8 (p).proto, .int .u32 (p).src, .int .u32 (p).dst, .slice A1 n1 c1, .slice A2 n2 c2])] W (MsPost W s 0))  (he : ∀ B b1 b2 W, Calls Try.prog 57 #[(.agg #[.int .u8 (s).ty, .int .u8 (s).code, .int .u32 (s).rest, .slice B b1 b2])] W fun e w' => e = .returned (.bool true) ∧ Below W.heap.size W w') (q : Pkt)  (hq : ∀ B b1 b2 W, Bs W B b1 b2 s.dat → Calls Try.prog 33 #[.slice B b1 b2] W fun e w' => ∃ C1 e1 f1 C2 e2 f2, e = .returned (.tuple #[(.agg #[.int .u8 (q).tos, .int .u16 (q).id, .bool (q).keep, .int .u8 (q).ttl, .int .u8 (q).proto, .int .u32 (q).src, .int .u32 (q).dst, .slice C1 e1 f1, .slice C2 e2 f2]), .int .i64 0]) ∧ Bs w' C1 e1 f1 q.opt ∧ Bs w' C2 e2 f2 q.dat ∧ Below W.heap.size W w') (hkn : ∀ (W : World) (r : Nat), W.heap[r]? = some (.map (kn 4) 4) → (Instr.lookup 84 (.map (some r)) (.int .u8 q.proto) true).run Try.prog W = .ok (.tuple #[.agg #[.nilFunc, .nilFunc], .bool false]) W) :
    Calls Try.prog 31 #[(.agg #[.int .u8 (p).tos, .int .u16 (p).id, .bool (p).keep, .int .u8 (p).ttl, .int .u8 (p).proto, .int .u32 (p).src, .int .u32 (p).dst, .slice A1 n1 c1, .slice A2 n2 c2])] w (TtPost w zT 12) := by
  have hrun : ∀ (W : World) (r : Nat), W.heap[r]? = some (.map (kn 4) 4) → (Instr.lookup 84 (.map (some r)) (.int .u8 q.proto) true).run Try.prog W = .ok (.tuple #[.agg #[.nilFunc, .nilFunc], .bool false]) W := hkn
  clear hkn
  obtain ⟨k, hk⟩ : ∃ k : Nat, w.heap.size = k := ⟨_, rfl⟩
  obtain ⟨w1, hw1⟩ : ∃ W, ((w.alloc (.cells #[.int .u8 (p).tos, .int .u16 (p).id, .bool (p).keep, .int .u8 (p).ttl, .int .u8 (p).proto, .int .u32 (p).src, .int .u32 (p).dst, .slice A1 n1 c1, .slice A2 n2 c2] 26)).alloc (.cells #[.int .u8 0, .int .u32 0, .int .u32 0, .int .u16 0, .int .u16 0] 28)) = W := ⟨_, rfl⟩
  have P1 : Blk w1 k #[.int .u8 (p).tos, .int .u16 (p).id, .bool (p).keep, .int .u8 (p).ttl, .int .u8 (p).proto, .int .u32 (p).src, .int .u32 (p).dst, .slice A1 n1 c1, .slice A2 n2 c2] 26 := by rw [← hw1]; exact ((blk_new _ _ _ k (by simp [hk])).alloc _)
  have Z1 : Blk w1 (k + 1) #[.int .u8 0, .int .u32 0, .int .u32 0, .int .u16 0, .int .u16 0] 28 := by rw [← hw1]; exact (blk_new _ _ _ (k + 1) (by simp [hk]))
  have R1 : Below w.heap.size w w1 := by rw [← hw1]; (repeat (first | with_reducible exact Below.refl _ _ | with_reducible refine below_drew ?_ | with_reducible refine below_drewN ?_ _ | with_reducible refine below_alloc ?_ (Nat.le_refl _) _ | with_reducible refine Below.setCell ?_ (by first | exact Nat.le_refl _ | (simp only []; omega)) _ | with_reducible assumption))
  have Pc1 := P1.cell
  have Zc1 := Z1.cell
  have Pl1 := P1.lt
  have Zl1 := Z1.lt
  have x1 := (k2).below R1
  go_enter Try.func31, Try.ntmps31
  go_wp2_with (first
    | (go_at_call 32; ((with_reducible refine (ht w1 x1).mono ?_); rintro e u2 ⟨⟨DA, dn, dc, rfl, ho, hB2⟩⟩); (obtain ⟨w2, hw2⟩ : ∃ W, u2.alloc (.cells #[.int .u8 (s).ty, .int .u8 (s).code, .int .u32 (s).rest, .slice DA dn dc] 42) = W := ⟨_, rfl⟩); have V2 : Below u2.heap.size u2 w2 := (by rw [← hw2]; (repeat (first | with_reducible exact Below.refl _ _ | with_reducible refine below_drew ?_ | with_reducible refine below_drewN ?_ _ | with_reducible refine below_alloc ?_ (Nat.le_refl _) _ | with_reducible refine Below.setCell ?_ (by first | exact Nat.le_refl _ | (simp only []; omega)) _ | with_reducible assumption))); (obtain ⟨kS2, hkS2⟩ : ∃ k : Nat, u2.heap.size = k := ⟨_, rfl⟩); have S2 : Blk w2 kS2 #[.int .u8 (s).ty, .int .u8 (s).code, .int .u32 (s).rest, .slice DA dn dc] 42 := (by rw [← hw2]; exact blk_new u2 _ _ _ hkS2); have Sc2 := S2.cell; have T2 := below_then hB2 V2; have y2 := (ho.bs).below V2; have P2 := P1.below T2; have Pc2 := P2.cell; clear Pc1; have Z2 := Z1.below T2; have Zc2 := Z2.cell; clear Zc1; have x2 := x1.below T2; have R2 := below_then R1 T2)
    | (go_at_call 57; ((with_reducible refine (he DA dn dc w2).mono ?_); rintro e w3 ⟨rfl, hB3⟩); have P3 := P2.below hB3; have Pc3 := P3.cell; clear Pc2; have Z3 := Z2.below hB3; have Zc3 := Z3.cell; clear Zc2; have S3 := S2.below hB3; have Sc3 := S3.cell; clear Sc2; have x3 := x2.below hB3; have y3 := y2.below hB3; have R3 := below_then R2 hB3)
    | (go_at_call 33; ((with_reducible refine (hq DA dn dc w3 y3).mono ?_); rintro e u4 ⟨C1, e1, f1, C2, e2, f2, rfl, kq1, kq2, hB4⟩); (obtain ⟨w4, hw4⟩ : ∃ W, u4.alloc (.cells #[.int .u8 (q).tos, .int .u16 (q).id, .bool (q).keep, .int .u8 (q).ttl, .int .u8 (q).proto, .int .u32 (q).src, .int .u32 (q).dst, .slice C1 e1 f1, .slice C2 e2 f2] 26) = W := ⟨_, rfl⟩); have V4 : Below u4.heap.size u4 w4 := (by rw [← hw4]; (repeat (first | with_reducible exact Below.refl _ _ | with_reducible refine below_drew ?_ | with_reducible refine below_drewN ?_ _ | with_reducible refine below_alloc ?_ (Nat.le_refl _) _ | with_reducible refine Below.setCell ?_ (by first | exact Nat.le_refl _ | (simp only []; omega)) _ | with_reducible assumption))); (obtain ⟨kG4, hkG4⟩ : ∃ k : Nat, u4.heap.size = k := ⟨_, rfl⟩); have G4 : Blk w4 kG4 #[.int .u8 (q).tos, .int .u16 (q).id, .bool (q).keep, .int .u8 (q).ttl, .int .u8 (q).proto, .int .u32 (q).src, .int .u32 (q).dst, .slice C1 e1 f1, .slice C2 e2 f2] 26 := (by rw [← hw4]; exact blk_new u4 _ _ _ hkG4); have Gc4 := G4.cell; have T4 := below_then hB4 V4; have z4 := (kq2).below V4; have P4 := P3.below T4; have Pc4 := P4.cell; clear Pc3; have Z4 := Z3.below T4; have Zc4 := Z4.cell; clear Zc3; have S4 := S3.below T4; have Sc4 := S4.cell; clear Sc3; have x4 := x3.below T4; have y4 := y3.below T4; have R4 := below_then R3 T4))
  refine region_z 8 6 (by kernel_rfl) (by kernel_rfl) (fun _ _ _ _ _ h => h) ?_; (iterate 8 (first | (apply ObsK.skip (by rfl)) | (apply ObsK.v (by rfl); (intro wo hT; (repeat (first | (intro v hv; ((obtain ⟨r, rfl, hm⟩ := hv; have hlk := hrun _ r hm))) | (intro _ _ k; try have hcv := cv k))); (have gc := (G4.below hT).cell; have hsz : w4.heap.size ≤ wo.heap.size := hT.size); refine Goes.mk ?_; go_simp; first | exact goes_v | exact goes_b (by assumption) | exact goes_new hsz | (refine goes_enter ?_; first | (go_at_call 42; ((with_reducible refine (known_any wo).mono ?_); rintro e w9 ⟨rfl, rfl⟩); exact ret_isKn)))) | (apply ObsK.b (by rfl); (intro wo hT; (repeat (first | (intro v hv; ((obtain ⟨r, rfl, hm⟩ := hv; have hlk := hrun _ r hm))) | (intro _ _ k; try have hcv := cv k))); (have gc := (G4.below hT).cell; have hsz : w4.heap.size ≤ wo.heap.size := hT.size); refine Goes.mk ?_; go_simp; first | exact goes_v | exact goes_b (by assumption) | exact goes_new hsz | (refine goes_enter ?_; first | (go_at_call 42; ((with_reducible refine (known_any wo).mono ?_); rintro e w9 ⟨rfl, rfl⟩); exact ret_isKn)))) | (apply ObsK.p (q := isKn) (by rfl) st_isKn; (intro wo hT; (repeat (first | (intro v hv; ((obtain ⟨r, rfl, hm⟩ := hv; have hlk := hrun _ r hm))) | (intro _ _ k; try have hcv := cv k))); (have gc := (G4.below hT).cell; have hsz : w4.heap.size ≤ wo.heap.size := hT.size); refine Goes.mk ?_; go_simp; first | exact goes_v | exact goes_b (by assumption) | exact goes_new hsz | (refine goes_enter ?_; first | (go_at_call 42; ((with_reducible refine (known_any wo).mono ?_); rintro e w9 ⟨rfl, rfl⟩); exact ret_isKn)))) | (apply ObsK.p (q := isNew w4.heap.size #[.nilFunc, .nilFunc] 82) (by rfl) st_isNew; (intro wo hT; (repeat (first | (intro v hv; ((obtain ⟨r, rfl, hm⟩ := hv; have hlk := hrun _ r hm))) | (intro _ _ k; try have hcv := cv k))); (have gc := (G4.below hT).cell; have hsz : w4.heap.size ≤ wo.heap.size := hT.size); refine Goes.mk ?_; go_simp; first | exact goes_v | exact goes_b (by assumption) | exact goes_new hsz | (refine goes_enter ?_; first | (go_at_call 42; ((with_reducible refine (known_any wo).mono ?_); rintro e w9 ⟨rfl, rfl⟩); exact ret_isKn)))))); refine ObsK.nil ?_; intro wz hBz; simp only [finOn, List.drop_succ_cons, List.drop_zero, List.drop_nil]
  rintro _ ⟨gS, rfl, hS, S5⟩ _ ⟨m, rfl, -⟩
  go_simp
  obtain ⟨wq, hwq, Sq⟩ := store2 S5 (.nilFunc) (.nilFunc)
  have hBq := Sq.bel hBz hS
  have cS5 := S5.cell
  have hsf : ∀ (W : World) (a : Addr) (m : Mode), (store a .nilFunc m).run Try.prog W = stored Try.prog W a .nilFunc m := fun W a m => run_store _ W a _ m rfl
  have P5 := P4.below hBq
  have Pc5 := P5.cell
  clear Pc4
  have Z5 := Z4.below hBq
  have Zc5 := Z5.cell
  clear Zc4
  have S5 := S4.below hBq
  have Sc5 := S5.cell
  clear Sc4
  have G5 := G4.below hBq
  have Gc5 := G5.cell
  clear Gc4
  have x5 := x4.below hBq
  have y5 := y4.below hBq
  have z5 := z4.below hBq
  have R5 := below_then R4 hBq
  go_wp2_with fail
  obtain ⟨wf, hwf, Sf⟩ := store5 Z5 (.int .u8 0) (.int .u32 0) (.int .u32 0) (.int .u16 0) (.int .u16 0)
  rw [hwf]
  have pf := Sf.blk.cell
  exact bodyPost_ret (v := .tuple #[(.agg #[.int .u8 (zT).proto, .int .u32 (zT).src, .int .u32 (zT).dst, .int .u16 (zT).sp, .int .u16 (zT).dp]), .int .i64 12]) (by simp [results, Try.results31, go_sem, pf, zT]) rfl ⟨⟨rfl, Sf.bel R5 (by omega)⟩⟩

theorem quo_any (p : Pkt) (A1 : Option Addr) (n1 c1 : Nat) (A2 : Option Addr) (n2 c2 : Nat) (w : World) (k2 : Bs w A2 n2 c2 p.dat) :
    Calls Try.prog 31 #[(.agg #[.int .u8 (p).tos, .int .u16 (p).id, .bool (p).keep, .int .u8 (p).ttl, .int .u8 (p).proto, .int .u32 (p).src, .int .u32 (p).dst, .slice A1 n1 c1, .slice A2 n2 c2])] w (TtPost w (quT p) (quE p)) := by
  have ht := fun W (h : Bs W A2 n2 c2 p.dat) => icmp_any p A1 n1 c1 A2 n2 c2 W h
  have he := fun B b1 b2 W => iserr_any (icM p) B b1 b2 W
  have hq : ∀ B b1 b2 W, Bs W B b1 b2 (icM p).dat → _ := fun B b1 b2 W k => ipQuote_v (l := (icM p).dat) rfl rfl B b1 b2 W k
  rcases quE_ways p with ⟨e, h0⟩ | ⟨e, h0, h1⟩ | ⟨h0, h1, h2, e⟩ | ⟨h0, h1, h2, e⟩
  · rw [(quT_no (by rw [e]; exact h0)).1, e]
    exact quo_1 p A1 n1 c1 A2 n2 c2 w k2 _ _ ht h0
  · rw [(quT_no (by rw [e]; decide)).1, e]
    rw [h0] at ht
    rw [h1] at he
    exact quo_2 p A1 n1 c1 A2 n2 c2 w k2 _ ht he
  · rw [(quT_no (by rw [e]; exact h2)).1, e]
    rw [h0] at ht
    rw [h1] at he
    exact quo_3 p A1 n1 c1 A2 n2 c2 w k2 _ ht he _ _ hq h2
  · rw [quT_in e, e]
    rw [h0] at ht
    rw [h1] at he
    rw [h2] at hq
    have h8 := rd_8 h2
    obtain ⟨q, hqq⟩ : ∃ q, rdPk true (icM p).dat = q := ⟨_, rfl⟩
    rw [hqq] at hq h8
    rw [hqq]
    unfold inT
    have hkn := fun W r h => run_known (W := W) (r := r) h q.proto
    rcases inE_ways q with ⟨t, i1, i2, i3⟩ | ⟨t, i1, i2, i3⟩ | ⟨t, i1, i2, i3⟩ | ⟨t, i1, i2, i3⟩ | ⟨t6, t17, t1, t47, i1⟩
    · rw [i1, i2, i3]
      rw [show knV q.proto = wayT from by rw [t]; rfl, show knB q.proto = true from by rw [t]; rfl] at hkn
      exact quo_tcp p A1 n1 c1 A2 n2 c2 w k2 _ ht he _ hq hkn _ _ _ (fun W C1 e1 f1 C2 e2 f2 k => ktwo_any q C1 e1 f1 C2 e2 f2 W k)
    · rw [i1, i2, i3]
      rw [show knV q.proto = wayU from by rw [t]; rfl, show knB q.proto = true from by rw [t]; rfl] at hkn
      exact quo_udp p A1 n1 c1 A2 n2 c2 w k2 _ ht he _ hq hkn _ _ _ (fun W C1 e1 f1 C2 e2 f2 k => ktwo_any q C1 e1 f1 C2 e2 f2 W k)
    · rw [i1, i2, i3]
      rw [show knV q.proto = wayI from by rw [t]; rfl, show knB q.proto = true from by rw [t]; rfl] at hkn
      exact quo_icmp p A1 n1 c1 A2 n2 c2 w k2 _ ht he _ hq hkn _ _ _ (fun W C1 e1 f1 C2 e2 f2 k => qecho_any q C1 e1 f1 C2 e2 f2 W k (by have := k.len; omega))
    · rw [i1, i2, i3]
      rw [show knV q.proto = wayG from by rw [t]; rfl, show knB q.proto = true from by rw [t]; rfl] at hkn
      exact quo_gre p A1 n1 c1 A2 n2 c2 w k2 _ ht he _ hq hkn _ _ _ (fun W C1 e1 f1 C2 e2 f2 k => qframe_any q C1 e1 f1 C2 e2 f2 W k (by have := k.len; omega))
    · rw [i1, show tuP q (inA q) (inB q) 12 = zT from by unfold tuP; rw [if_pos (by decide)]]
      rw [show knV q.proto = .agg #[.nilFunc, .nilFunc] from by unfold knV; rw [if_neg t6, if_neg t17, if_neg t1, if_neg t47], show knB q.proto = false from by simp [knB, t6, t17, t1, t47]] at hkn
      exact quo_none p A1 n1 c1 A2 n2 c2 w k2 _ ht he _ hq hkn
end Go.Proofs.Ytjhpmeagopdaiaa

namespace Go.Proofs.Ytjhpmeagopdaiaa
open Go.RowKit
set_option linter.unusedVariables false
set_option linter.unusedSimpArgs false
set_option linter.unusedSimpArgs false
set_option maxHeartbeats 8000000
set_option maxRecDepth 100000

theorem Bs.recap {w : World} {A : Option Addr} {n c c' : Nat} {l : List UInt8} (h : Bs w A n c l) (hn : n ≤ c') (hA : A = none → c' = 0) : Bs w A n c' l := ⟨h.len, hn, h.max, hA, h.rd⟩
section
variable {P : Program}
theorem run_append_tightB (w : World) (base : Nat) (t ty e : TypeId) (ht : P.underlying t = some (.slice e)) (hinfo : (P.info? e).map (fun i => (i.zero, i.size, i.bytes)) = some (some (.int .u8 0), 1, 1))
    (ad : Addr) (n : Nat) (l : List UInt8) (hb : Bs w (some ad) n n l) (ad2 : Addr) (n2 c2 : Nat) (l2 : List UInt8) (hr : Bs w (some ad2) n2 c2 l2) (h0 : 0 < n2)
    (hmax : n + n2 ≤ 200000000000000) (hbase : base ≤ w.heap.size) :
    ∃ A' c' w', (Builtin.append_ #[t, t] ty #[.slice (some ad) n n, .slice (some ad2) n2 c2]).run P w = .ok (.slice A' (n + n2) c') w' ∧ Own w' base e A' (n + n2) c' (l ++ l2) ∧ Below w.heap.size w w' := by
  obtain ⟨i, hi, hz, hs, hby⟩ := info_parts hinfo
  have hl : (cu l).length = n := by rw [cu_length, hb.len]
  have hl2 : (cu l2).length = n2 := by rw [cu_length, hr.len]
  have h := run_append_grow (P := P) w t ty e i (.int .u8 0) ht hi hz ad n n (cu l) (by rw [hl, hs]; omega) (hb.cells rfl) ad2 n2 c2 (cu l2) (by rw [hl2, hs]; omega) (hr.cells rfl) (by omega) (by omega) (growslice_fits_wide (by omega) (by rw [hby]; omega))
  have hge := grownCap_ge w (n + n2) n e
  have hcm : grownCap w (n + n2) n e ≤ maxLen := grownCap_le_maxLen w (n + n2) n e (by simp only [maxLen]; omega)
  have hlen : (cu l ++ cu l2).length = n + n2 := by rw [List.length_append, hl, hl2]
  refine ⟨_, _, _, h, ⟨by rw [List.length_append, hb.len, hr.len], hmax, ?_⟩, (Below.drew (Below.refl _ w)).alloc (Nat.le_refl _) _⟩
  refine ⟨by rw [cu_length, List.length_append, hb.len, hr.len]; omega, .inr ⟨w.heap.size, _, _, rfl, hbase, heap_alloc_new w.drew _, hge, hcm, ?_, ?_⟩⟩
  · have hc1 : (Value.int IntKind.u8 0).cells.size = 1 := rfl
    simp only [Array.size_append, List.size_toArray, size_zeroCells, hc1, hl, hl2]
    omega
  · simp only [Array.toList_append, List.append_assoc]
    rw [← List.append_assoc, show (n + n2) * 1 = (cu l ++ cu l2).length from by rw [hlen]; omega, List.take_left, cu_append]
end
theorem goes_appB {o : Oper} {a : Act} {W : World} (s x : Operand) (ho : o.op = .call { callee := .builtin .append, args := #[s, x], argTypes := #[24, 24] }) {B n : Nat} {ad : Addr} {l : List UInt8} (hs : a.eval s = .slice (some ad) n n)
    (hown : Bs W (some ad) n n l) {A2 : Option Addr} {n2 c2 : Nat} {l2 : List UInt8} (hx : a.eval x = .slice A2 n2 c2) (hr : Bs W A2 n2 c2 l2) (h0 : 0 < n2) (hmax : n + n2 ≤ 200000000000000) (hB : B ≤ W.heap.size) :
    OpGoes Try.prog (fun v w' => (Kd.p (isW B (l ++ l2))).holds w' v ∧ Below W.heap.size W w') ((execOp a.eval o).run Try.prog W) := by
  obtain ⟨b2, o2, rfl⟩ := hr.some_ h0
  obtain ⟨A', c', w', hrun, hown', hB'⟩ := run_append_tightB (P := Try.prog) W B 24 o.type 5 Try.underlying24 info_u8 ad n l hown ⟨b2, o2, none⟩ n2 c2 l2 hr h0 hmax hB
  unfold execOp
  simp only [ho, resolve, invoke, builtin, Sem.run_bind, Sem.run_pure, Result.andThen_ok, List.map_toArray, List.map_cons, List.map_nil, hs, hx, hrun]
  exact ⟨⟨A', _, c', rfl, hown'⟩, hB'⟩
def rqL2 (M : List UInt8) (t : Tup) : List UInt8 := put32 (put32 M 12 t.src) 16 t.dst
def rqL4 (M : List UInt8) (h : Nat) (t : Tup) : List UInt8 := put16 (put16 (rqL2 M t) 10 0) 10 (csum ((put16 (rqL2 M t) 10 0).take h))
def rqDat (M : List UInt8) (h e : Nat) (u t : Tup) : List UInt8 := ((rqL4 M h t).take h ++ bodyB (((rqL4 M h t).take e).drop h) u t) ++ ((rqL4 M h t).take M.length).drop e
theorem rqL4_len (M : List UInt8) (h : Nat) (t : Tup) : (rqL4 M h t).length = M.length := by unfold rqL4 rqL2; simp [put16_length, put32_length]
theorem rqDat_len {M : List UInt8} {h e : Nat} (u t : Tup) (h1 : h ≤ e) (h2 : e ≤ M.length) : (rqDat M h e u t).length = M.length := by
  unfold rqDat
  simp only [List.length_append, bodyB_len, List.length_drop, List.length_take, rqL4_len]
  omega
theorem rq_ok (p : Pkt) (A1 : Option Addr) (n1 c1 : Nat) (A2 : Option Addr) (n2 c2 : Nat) (w : World) (k1 : Bs w A1 n1 c1 p.opt) (k2 : Bs w A2 n2 c2 p.dat) (sa sb : Int) (t : Tup) (ht : t.Ok)
    (U : Tup) (hU : U.Ok) (cq : ∀ W, Bs W A2 n2 c2 p.dat → Calls Try.prog 31 #[(.agg #[.int .u8 (p).tos, .int .u16 (p).id, .bool (p).keep, .int .u8 (p).ttl, .int .u8 (p).proto, .int .u32 (p).src, .int .u32 (p).dst, .slice A1 n1 c1, .slice A2 n2 c2])] W (TtPost W U 0)) (hne : (U.proto != t.proto) = false)
    (s : Msg) (ci : ∀ W, Bs W A2 n2 c2 p.dat → Calls Try.prog 32 #[(.agg #[.int .u8 (p).tos, .int .u16 (p).id, .bool (p).keep, .int .u8 (p).ttl, .int .u8 (p).proto, .int .u32 (p).src, .int .u32 (p).dst, .slice A1 n1 c1, .slice A2 n2 c2])] W (MsPost W s 0))
    (q : Pkt) (cqt : ∀ B b1 b2 W, Bs W B b1 b2 s.dat → Calls Try.prog 33 #[.slice B b1 b2] W fun e w' => ∃ C1 e1 f1 C2 e2 f2, e = .returned (.tuple #[(.agg #[.int .u8 (q).tos, .int .u16 (q).id, .bool (q).keep, .int .u8 (q).ttl, .int .u8 (q).proto, .int .u32 (q).src, .int .u32 (q).dst, .slice C1 e1 f1, .slice C2 e2 f2]), .int .i64 0]) ∧ Bs w' C1 e1 f1 q.opt ∧ Bs w' C2 e2 f2 q.dat ∧ Below W.heap.size W w')
    (nM h e : Nat) (hnM : s.dat.length = nM) (on : Nat) (hon : q.opt.length = on) (hh : 20 + on = h) (he : h + q.dat.length = e) (heM : e ≤ nM) (h8 : 8 ≤ q.dat.length) (hM : nM ≤ 140737488351232) (Q : Pkt) (E : Int)
    (cb : ∀ B b1 b2 W, Bs W A1 n1 c1 p.opt → Bs W B b1 b2 (rqDat s.dat h e U t) → b1 ≤ 140737488400000 → Calls Try.prog 38 #[.agg #[.int .u8 p.tos, .int .u16 p.id, .bool p.keep, .int .u8 p.ttl, .int .u8 p.proto, .int .u32 sa, .int .u32 sb, .slice A1 n1 c1, .slice A2 n2 c2], .agg #[.int .u8 s.ty, .int .u8 s.code, .int .u32 s.rest, .slice B b1 b2]] W (WiPost W Q E)) :
    Calls Try.prog 14 #[(.agg #[.int .u8 (p).tos, .int .u16 (p).id, .bool (p).keep, .int .u8 (p).ttl, .int .u8 (p).proto, .int .u32 (p).src, .int .u32 (p).dst, .slice A1 n1 c1, .slice A2 n2 c2]), .int .u32 sa, .int .u32 sb, (.agg #[.int .u8 (t).proto, .int .u32 (t).src, .int .u32 (t).dst, .int .u16 (t).sp, .int .u16 (t).dp])] w (WiPost w Q E) := by
  obtain ⟨sr0, sr1⟩ := ht.src
  obtain ⟨ds0, ds1⟩ := ht.dst
  obtain ⟨i8, hi8, -, hs8, -⟩ := info_parts info_u8
  obtain ⟨L2, hL2⟩ : ∃ L, rqL2 s.dat t = L := ⟨_, rfl⟩
  obtain ⟨L3, hL3⟩ : ∃ L, put16 L2 10 0 = L := ⟨_, rfl⟩
  obtain ⟨x, hx⟩ : ∃ x, csum (L3.take h) = x := ⟨_, rfl⟩
  obtain ⟨L4, hL4⟩ : ∃ L, put16 L3 10 x = L := ⟨_, rfl⟩
  have hL4' : rqL4 s.dat h t = L4 := by unfold rqL4; rw [hL2, hL3, hx, hL4]
  have l2 : L2.length = nM := by rw [← hL2, rqL2, put32_length, put32_length, hnM]
  have l3 : L3.length = nM := by rw [← hL3, put16_length, l2]
  have l4 : L4.length = nM := by rw [← hL4, put16_length, l3]
  have x0 : 0 ≤ x := by rw [← hx]; exact csum_lo _
  have x1' : x ≤ 65535 := by rw [← hx]; exact csum_hi _
  have cp0 : ∀ A c W, Bs W A nM c L2 → Calls Try.prog 35 #[.slice A nM c, .int .i64 10, .int .u16 0] W fun e w' => ∃ A' c', e = .returned (.slice A' nM c') ∧ Own w' W.heap.size 5 A' nM c' L3 ∧ Below W.heap.size W w' := fun A c W k => by
    have := put16_any A nM c L2 10 0 (by omega) (by omega) W k
    rw [hL3] at this
    exact this
  have cs : ∀ A c W, Bs W A h c (L3.take h) → Calls Try.prog 36 #[.slice A h c] W fun e w' => e = .returned (.int .u16 x) ∧ Below W.heap.size W w' := fun A c W k => by
    have := sum_any A h c (L3.take h) W k
    rw [hx] at this
    exact this
  have cp1 : ∀ A c W, Bs W A nM c L3 → Calls Try.prog 35 #[.slice A nM c, .int .i64 10, .int .u16 x] W fun e w' => ∃ A' c', e = .returned (.slice A' nM c') ∧ Own w' W.heap.size 5 A' nM c' L4 ∧ Below W.heap.size W w' := fun A c W k => by
    have := put16_any A nM c L3 10 x x0 x1' W k
    rw [hL4] at this
    exact this
  obtain ⟨dn, hdn⟩ : ∃ d, q.dat.length = d := ⟨_, rfl⟩
  rw [hdn] at he h8
  obtain ⟨X, hX⟩ : ∃ X, bodyB ((L4.take e).drop h) U t = X := ⟨_, rfl⟩
  have lmid : ((L4.take e).drop h).length = dn := by rw [List.length_drop, List.length_take, l4]; omega
  have lX : X.length = dn := by rw [← hX, bodyB_len, lmid]
  have cbd : ∀ A c W, Bs W A dn c ((L4.take e).drop h) → Calls Try.prog 37 #[.slice A dn c, (.agg #[.int .u8 (U).proto, .int .u32 (U).src, .int .u32 (U).dst, .int .u16 (U).sp, .int .u16 (U).dp]), (.agg #[.int .u8 (t).proto, .int .u32 (t).src, .int .u32 (t).dst, .int .u16 (t).sp, .int .u16 (t).dp])] W (RowPost W dn X) := fun A c W k => by
    have := body_any A dn c _ U t hU ht W k
    rw [hX] at this
    exact this
  have hD : rqDat s.dat h e U t = (L4.take h ++ X) ++ (L4.take nM).drop e := by unfold rqDat; rw [hL4', hX, hnM]
  rw [hD] at cb
  have lD : ((L4.take h ++ X) ++ (L4.take nM).drop e).length = nM := by
    rw [List.length_append, List.length_append, List.length_drop, List.length_take, List.length_take, l4, lX]; omega
  have hqo : Hid (q.opt.length = on) := hon
  have hhi : 20 + (on : Int) = (h : Int) := by omega
  have hei : (h : Int) + (dn : Int) = (e : Int) := by omega
  have hl2 : Hid (L2.length = nM) := l2
  have hqd : Hid (q.dat.length = dn) := hdn
  have hms : Hid (s.dat.length = nM) := hnM
  have h20 : 20 ≤ h := by omega
  have hhe : h ≤ e := by omega
  have hhM : h ≤ nM := by omega
  have HD := Lib.hid lD
  have HX := Lib.hid lX
  have HL2 : Hid (put32 (put32 s.dat 12 t.src) 16 t.dst = L2) := hL2
  have hE2 : Hid (e - h = dn) := by unfold Hid; omega
  clear hD lD lX lmid hX hL4' hL4 hL3 hL2 hx l2 l3 l4 hU ht hnM hh hdn hon he
  obtain ⟨k, hk⟩ : ∃ k : Nat, w.heap.size = k := ⟨_, rfl⟩
  obtain ⟨w1, hw1⟩ : ∃ W, (((w.alloc (.cells #[.int .u8 (p).tos, .int .u16 (p).id, .bool (p).keep, .int .u8 (p).ttl, .int .u8 (p).proto, .int .u32 (p).src, .int .u32 (p).dst, .slice A1 n1 c1, .slice A2 n2 c2] 26)).alloc (.cells #[.int .u8 (t).proto, .int .u32 (t).src, .int .u32 (t).dst, .int .u16 (t).sp, .int .u16 (t).dp] 28)).alloc (.cells #[.int .u8 0, .int .u16 0, .bool false, .int .u8 0, .int .u8 0, .int .u32 0, .int .u32 0, .slice none 0 0, .slice none 0 0] 26)) = W := ⟨_, rfl⟩
  have P1 : Blk w1 k #[.int .u8 (p).tos, .int .u16 (p).id, .bool (p).keep, .int .u8 (p).ttl, .int .u8 (p).proto, .int .u32 (p).src, .int .u32 (p).dst, .slice A1 n1 c1, .slice A2 n2 c2] 26 := by rw [← hw1]; exact (((blk_new _ _ _ k (by simp [hk])).alloc _).alloc _)
  have O1 : Blk w1 (k + 1) #[.int .u8 (t).proto, .int .u32 (t).src, .int .u32 (t).dst, .int .u16 (t).sp, .int .u16 (t).dp] 28 := by rw [← hw1]; exact ((blk_new _ _ _ (k + 1) (by simp [hk])).alloc _)
  have Z1 : Blk w1 (k + 1 + 1) #[.int .u8 0, .int .u16 0, .bool false, .int .u8 0, .int .u8 0, .int .u32 0, .int .u32 0, .slice none 0 0, .slice none 0 0] 26 := by rw [← hw1]; exact (blk_new _ _ _ (k + 1 + 1) (by simp [hk]))
  have R1 : Below w.heap.size w w1 := by rw [← hw1]; (repeat (first | with_reducible exact Below.refl _ _ | with_reducible refine below_drew ?_ | with_reducible refine below_drewN ?_ _ | with_reducible refine below_alloc ?_ (Nat.le_refl _) _ | with_reducible refine Below.setCell ?_ (by first | exact Nat.le_refl _ | (simp only []; omega)) _ | with_reducible assumption))
  have Pc1 := P1.cell
  have Oc1 := O1.cell
  have Zc1 := Z1.cell
  have Pl1 := P1.lt
  have Ol1 := O1.lt
  have Zl1 := Z1.lt
  have x1 := (k1).below R1
  have y1 := (k2).below R1
  go_enter Try.func14, Try.ntmps14
  go_wp2_with (first
    | (go_at_call 31; ((with_reducible refine (cq w1 y1).mono ?_); rintro e u2 ⟨⟨rfl, hB2⟩⟩); (obtain ⟨w2, hw2⟩ : ∃ W, u2.alloc (.cells #[.int .u8 (U).proto, .int .u32 (U).src, .int .u32 (U).dst, .int .u16 (U).sp, .int .u16 (U).dp] 28) = W := ⟨_, rfl⟩); have V2 : Below u2.heap.size u2 w2 := (by rw [← hw2]; (repeat (first | with_reducible exact Below.refl _ _ | with_reducible refine below_drew ?_ | with_reducible refine below_drewN ?_ _ | with_reducible refine below_alloc ?_ (Nat.le_refl _) _ | with_reducible refine Below.setCell ?_ (by first | exact Nat.le_refl _ | (simp only []; omega)) _ | with_reducible assumption))); (obtain ⟨kG2, hkG2⟩ : ∃ k : Nat, u2.heap.size = k := ⟨_, rfl⟩); have G2 : Blk w2 kG2 #[.int .u8 (U).proto, .int .u32 (U).src, .int .u32 (U).dst, .int .u16 (U).sp, .int .u16 (U).dp] 28 := (by rw [← hw2]; exact blk_new u2 _ _ _ hkG2); have Gc2 := G2.cell; have T2 := below_then hB2 V2; have P2 := P1.below T2; have Pc2 := P2.cell; clear Pc1; have O2 := O1.below T2; have Oc2 := O2.cell; clear Oc1; have Z2 := Z1.below T2; have Zc2 := Z2.cell; clear Zc1; have x2 := x1.below T2; have y2 := y1.below T2; have R2 := below_then R1 T2)
    | (go_at_call 32; ((with_reducible refine (ci w2 y2).mono ?_); rintro e u3 ⟨⟨DA, dm, dc, rfl, od, hB3⟩⟩); have udm : dm = nM := (by rw [← od.len]; exact hms.out); subst udm; (obtain ⟨w3, hw3⟩ : ∃ W, u3.alloc (.cells #[.int .u8 (s).ty, .int .u8 (s).code, .int .u32 (s).rest, .slice DA dm dc] 42) = W := ⟨_, rfl⟩); have V3 : Below u3.heap.size u3 w3 := (by rw [← hw3]; (repeat (first | with_reducible exact Below.refl _ _ | with_reducible refine below_drew ?_ | with_reducible refine below_drewN ?_ _ | with_reducible refine below_alloc ?_ (Nat.le_refl _) _ | with_reducible refine Below.setCell ?_ (by first | exact Nat.le_refl _ | (simp only []; omega)) _ | with_reducible assumption))); (obtain ⟨kS3, hkS3⟩ : ∃ k : Nat, u3.heap.size = k := ⟨_, rfl⟩); have S3 : Blk w3 kS3 #[.int .u8 (s).ty, .int .u8 (s).code, .int .u32 (s).rest, .slice DA dm dc] 42 := (by rw [← hw3]; exact blk_new u3 _ _ _ hkS3); have Sc3 := S3.cell; have T3 := below_then hB3 V3; have z3 := (od.bs).below V3; have P3 := P2.below T3; have Pc3 := P3.cell; clear Pc2; have O3 := O2.below T3; have Oc3 := O3.cell; clear Oc2; have Z3 := Z2.below T3; have Zc3 := Z3.cell; clear Zc2; have G3 := G2.below T3; have Gc3 := G3.cell; clear Gc2; have x3 := x2.below T3; have y3 := y2.below T3; have R3 := below_then R2 T3)
    | (go_at_call 33; ((with_reducible refine (cqt DA dm dc w3 z3).mono ?_); rintro e u4 ⟨C1, e1, f1, C2, e2, f2, rfl, kq1, kq2, hB4⟩); have ue1 : e1 = on := (by rw [← kq1.len]; exact hqo.out); subst ue1; have ue2 : e2 = dn := (by rw [← kq2.len]; exact hqd.out); subst ue2; (obtain ⟨w4, hw4⟩ : ∃ W, u4.alloc (.cells #[.int .u8 (q).tos, .int .u16 (q).id, .bool (q).keep, .int .u8 (q).ttl, .int .u8 (q).proto, .int .u32 (q).src, .int .u32 (q).dst, .slice C1 e1 f1, .slice C2 e2 f2] 26) = W := ⟨_, rfl⟩); have V4 : Below u4.heap.size u4 w4 := (by rw [← hw4]; (repeat (first | with_reducible exact Below.refl _ _ | with_reducible refine below_drew ?_ | with_reducible refine below_drewN ?_ _ | with_reducible refine below_alloc ?_ (Nat.le_refl _) _ | with_reducible refine Below.setCell ?_ (by first | exact Nat.le_refl _ | (simp only []; omega)) _ | with_reducible assumption))); (obtain ⟨kI4, hkI4⟩ : ∃ k : Nat, u4.heap.size = k := ⟨_, rfl⟩); have I4 : Blk w4 kI4 #[.int .u8 (q).tos, .int .u16 (q).id, .bool (q).keep, .int .u8 (q).ttl, .int .u8 (q).proto, .int .u32 (q).src, .int .u32 (q).dst, .slice C1 e1 f1, .slice C2 e2 f2] 26 := (by rw [← hw4]; exact blk_new u4 _ _ _ hkI4); have Ic4 := I4.cell; have T4 := below_then hB4 V4; have P4 := P3.below T4; have Pc4 := P4.cell; clear Pc3; have O4 := O3.below T4; have Oc4 := O4.cell; clear Oc3; have Z4 := Z3.below T4; have Zc4 := Z4.cell; clear Zc3; have G4 := G3.below T4; have Gc4 := G4.cell; clear Gc3; have S4 := S3.below T4; have Sc4 := S4.cell; clear Sc3; have x4 := x3.below T4; have y4 := y3.below T4; have z4 := z3.below T4; have R4 := below_then R3 T4))
  refine region_txt 8 (by kernel_rfl) (by kernel_rfl) ?_; (iterate 8 (first | (apply ObsK.skip (by rfl)) | (apply ObsK.v (by rfl); (intro wo hT; (repeat (first | (intro v hv; ((obtain ⟨A7, n7, c7, rfl, o7⟩ := hv))) | (intro _ _ k; try have hcv := cv k))); (have oc := (O4.below hT).cell; have sc := (S4.below hT).cell; have zo := z4.below hT; have hsz : w4.heap.size ≤ wo.heap.size := hT.size); refine Goes.mk ?_; go_simp; first | exact goes_v | exact goes_b (by assumption) | (refine goes_enter ?_; first | (go_at_call 34; ((with_reducible refine (put32_any DA dm dc s.dat 12 t.src sr0 sr1 wo zo).mono ?_); rintro e w5 ⟨A5, c5, rfl, ho5, hB5⟩); exact ret_p (own_isW ho5 hsz) hB5) | (go_at_call 34; ((with_reducible refine (put32_any A7 n7 c7 _ 16 t.dst ds0 ds1 wo o7.bs).mono ?_); rintro e w5 ⟨A5, c5, rfl, ho5, hB5⟩); exact ret_p (own_isW ho5 hsz) hB5)))) | (apply ObsK.b (by rfl); (intro wo hT; (repeat (first | (intro v hv; ((obtain ⟨A7, n7, c7, rfl, o7⟩ := hv))) | (intro _ _ k; try have hcv := cv k))); (have oc := (O4.below hT).cell; have sc := (S4.below hT).cell; have zo := z4.below hT; have hsz : w4.heap.size ≤ wo.heap.size := hT.size); refine Goes.mk ?_; go_simp; first | exact goes_v | exact goes_b (by assumption) | (refine goes_enter ?_; first | (go_at_call 34; ((with_reducible refine (put32_any DA dm dc s.dat 12 t.src sr0 sr1 wo zo).mono ?_); rintro e w5 ⟨A5, c5, rfl, ho5, hB5⟩); exact ret_p (own_isW ho5 hsz) hB5) | (go_at_call 34; ((with_reducible refine (put32_any A7 n7 c7 _ 16 t.dst ds0 ds1 wo o7.bs).mono ?_); rintro e w5 ⟨A5, c5, rfl, ho5, hB5⟩); exact ret_p (own_isW ho5 hsz) hB5)))) | (apply ObsK.p (q := isW w4.heap.size _) (by rfl) st_isW; (intro wo hT; (repeat (first | (intro v hv; ((obtain ⟨A7, n7, c7, rfl, o7⟩ := hv))) | (intro _ _ k; try have hcv := cv k))); (have oc := (O4.below hT).cell; have sc := (S4.below hT).cell; have zo := z4.below hT; have hsz : w4.heap.size ≤ wo.heap.size := hT.size); refine Goes.mk ?_; go_simp; first | exact goes_v | exact goes_b (by assumption) | (refine goes_enter ?_; first | (go_at_call 34; ((with_reducible refine (put32_any DA dm dc s.dat 12 t.src sr0 sr1 wo zo).mono ?_); rintro e w5 ⟨A5, c5, rfl, ho5, hB5⟩); exact ret_p (own_isW ho5 hsz) hB5) | (go_at_call 34; ((with_reducible refine (put32_any A7 n7 c7 _ 16 t.dst ds0 ds1 wo o7.bs).mono ?_); rintro e w5 ⟨A5, c5, rfl, ho5, hB5⟩); exact ret_p (own_isW ho5 hsz) hB5)))))); refine ObsK.nil ?_; intro wz hBz; simp only [finOn, List.drop_succ_cons, List.drop_zero, List.drop_nil]
  rintro _ ⟨B2, m2, cap2, rfl, o2⟩ _ ⟨B3, m3, cap3, rfl, -⟩
  go_simp
  rw [HL2.out] at o2
  have um : dm = m2 := by rw [← o2.len]; exact hl2.out.symm
  subst um
  have rb5 := o2.bs
  have P5 := P4.below hBz
  have Pc5 := P5.cell
  clear Pc4
  have O5 := O4.below hBz
  have Oc5 := O5.cell
  clear Oc4
  have Z5 := Z4.below hBz
  have Zc5 := Z5.cell
  clear Zc4
  have G5 := G4.below hBz
  have Gc5 := G5.cell
  clear Gc4
  have S5 := S4.below hBz
  have Sc5 := S5.cell
  clear Sc4
  have I5 := I4.below hBz
  have Ic5 := I5.cell
  clear Ic4
  have x5 := x4.below hBz
  have y5 := y4.below hBz
  have z5 := z4.below hBz
  have R5 := below_then R4 hBz
  go_wp2_with (first
    | (go_at_call 35; ((with_reducible refine (cp0 B2 cap2 wz rb5).mono ?_); rintro e w6 ⟨B6, cap6, rfl, ho6, hB6⟩); have rd6 := ho6.bs; have P6 := P5.below hB6; have Pc6 := P6.cell; clear Pc5; have O6 := O5.below hB6; have Oc6 := O6.cell; clear Oc5; have Z6 := Z5.below hB6; have Zc6 := Z6.cell; clear Zc5; have G6 := G5.below hB6; have Gc6 := G6.cell; clear Gc5; have S6 := S5.below hB6; have Sc6 := S6.cell; clear Sc5; have I6 := I5.below hB6; have Ic6 := I6.cell; clear Ic5; have x6 := x5.below hB6; have y6 := y5.below hB6; have z6 := z5.below hB6; have rb6 := rb5.below hB6; have R6 := below_then R5 hB6; (obtain ⟨b6, o6, rfl⟩ := rd6.some_ (by omega)); have hcap6 := rd6.cap; have hcut6 : ∀ W, (Instr.slice 24 (.slice (some ⟨b6, o6, none⟩) dm cap6) none (some (.int .i64 (h : Int))) none).run Try.prog W = .ok (.slice (some ⟨b6, o6, none⟩) h cap6) W := (fun W => by rw [cut_h Try.underlying24 hi8 hs8 (some ⟨b6, o6, none⟩) dm cap6 .i64 (h : Int) (by omega) (by omega) W]; simp [Addr.add]))
    | (go_at_call 36; ((with_reducible refine (cs _ cap6 w6 (rd6.takeN hhM)).mono ?_); rintro e w7 ⟨rfl, hB7⟩); have P7 := P6.below hB7; have Pc7 := P7.cell; clear Pc6; have O7 := O6.below hB7; have Oc7 := O7.cell; clear Oc6; have Z7 := Z6.below hB7; have Zc7 := Z7.cell; clear Zc6; have G7 := G6.below hB7; have Gc7 := G7.cell; clear Gc6; have S7 := S6.below hB7; have Sc7 := S7.cell; clear Sc6; have I7 := I6.below hB7; have Ic7 := I7.cell; clear Ic6; have x7 := x6.below hB7; have y7 := y6.below hB7; have z7 := z6.below hB7; have rb7 := rb6.below hB7; have rd7 := rd6.below hB7; have R7 := below_then R6 hB7)
    | (go_at_call 35; ((with_reducible refine (cp1 _ cap6 w7 rd7).mono ?_); rintro e w8 ⟨B8, cap8, rfl, ho8, hB8⟩); have rf8 := ho8.bs; have P8 := P7.below hB8; have Pc8 := P8.cell; clear Pc7; have O8 := O7.below hB8; have Oc8 := O8.cell; clear Oc7; have Z8 := Z7.below hB8; have Zc8 := Z8.cell; clear Zc7; have G8 := G7.below hB8; have Gc8 := G8.cell; clear Gc7; have S8 := S7.below hB8; have Sc8 := S8.cell; clear Sc7; have I8 := I7.below hB8; have Ic8 := I8.cell; clear Ic7; have x8 := x7.below hB8; have y8 := y7.below hB8; have z8 := z7.below hB8; have rb8 := rb7.below hB8; have rd8 := rd7.below hB8; have R8 := below_then R7 hB8))
  obtain ⟨b8, o8, rfl⟩ := rf8.some_ (by omega)
  have hcap8 := rf8.cap
  have cut1 : ∀ W, (Instr.slice 24 (.slice (some ⟨b8, o8, none⟩) dm cap8) none (some (.int .i64 (h : Int))) (some (.int .i64 (h : Int)))).run Try.prog W = .ok (.slice (some ⟨b8, o8, none⟩) h h) W := fun W => by
    rw [cut_hm Try.underlying24 hi8 hs8 (some ⟨b8, o8, none⟩) dm cap8 .i64 .i64 (h : Int) (h : Int) (by omega) (by omega) (by omega) W]; simp [Addr.add]
  have fh : Bs w8 (some ⟨b8, o8, none⟩) h h (L4.take h) := (rf8.takeN hhM).recap (Nat.le_refl _) (by simp)
  obtain ⟨Am, nm, cm, eAm, enm, ecm, fm⟩ := rf8.cutE (lo := h) (hi := e) hhe heM
  have cut2 := fun W => cut_lh (P := Try.prog) Try.underlying24 hi8 hs8 (some ⟨b8, o8, none⟩) dm cap8 .i64 .i64 (h : Int) (e : Int) (by omega) (by omega) (by omega) W
  simp only [Int.toNat_natCast, eAm, enm, ecm] at cut2
  obtain rfl : nm = e2 := by rw [← enm]; exact hE2.out
  obtain ⟨Ae, ne, ce, eAe, ene, ece, fe⟩ := rf8.cutE (lo := e) (hi := dm) heM (Nat.le_refl _)
  have cut3 := fun W => cut_l (P := Try.prog) Try.underlying24 hi8 hs8 (some ⟨b8, o8, none⟩) dm cap8 .i64 (e : Int) (by omega) (by omega) W
  simp only [Int.toNat_natCast, eAe, ene, ece] at cut3
  have hsum : h + nm + ne = dm := by omega
  clear eAm enm ecm eAe ene ece
  refine region_txt 15 (by kernel_rfl) (by kernel_rfl) ?_; (iterate 15 (first | (apply ObsK.skip (by rfl)) | (apply ObsK.v (by rfl); (intro wo hT; (repeat (first | (intro v hv; ((obtain ⟨A7, n7, c7, rfl, o7⟩ := hv; have u7 : nm = n7 := (by rw [← o7.len]; exact HX.out.symm); subst u7))) | (intro _ _ k; try have hcv := cv k))); (have gc := (G8.below hT).cell; have oc := (O8.below hT).cell; have fho := fh.below hT; have fmo := fm.below hT; have hsz : w8.heap.size ≤ wo.heap.size := hT.size); refine Goes.mk ?_; first | ((have o7b := o7.bs; exact goes_appB _ _ rfl rfl fho rfl o7b (by omega) (by omega) hsz)) | (go_simp; first | exact goes_v | exact goes_b (by assumption) | fail | (refine goes_enter ?_; first | (go_at_call 37; ((with_reducible refine (cbd Am cm wo fmo).mono ?_); rintro e w5 ⟨⟨A5, c5, rfl, ho5, hB5⟩⟩); exact ret_p (own_isW ho5 hsz) hB5))))) | (apply ObsK.b (by rfl); (intro wo hT; (repeat (first | (intro v hv; ((obtain ⟨A7, n7, c7, rfl, o7⟩ := hv; have u7 : nm = n7 := (by rw [← o7.len]; exact HX.out.symm); subst u7))) | (intro _ _ k; try have hcv := cv k))); (have gc := (G8.below hT).cell; have oc := (O8.below hT).cell; have fho := fh.below hT; have fmo := fm.below hT; have hsz : w8.heap.size ≤ wo.heap.size := hT.size); refine Goes.mk ?_; first | ((have o7b := o7.bs; exact goes_appB _ _ rfl rfl fho rfl o7b (by omega) (by omega) hsz)) | (go_simp; first | exact goes_v | exact goes_b (by assumption) | fail | (refine goes_enter ?_; first | (go_at_call 37; ((with_reducible refine (cbd Am cm wo fmo).mono ?_); rintro e w5 ⟨⟨A5, c5, rfl, ho5, hB5⟩⟩); exact ret_p (own_isW ho5 hsz) hB5))))) | (apply ObsK.p (q := isW w8.heap.size _) (by rfl) st_isW; (intro wo hT; (repeat (first | (intro v hv; ((obtain ⟨A7, n7, c7, rfl, o7⟩ := hv; have u7 : nm = n7 := (by rw [← o7.len]; exact HX.out.symm); subst u7))) | (intro _ _ k; try have hcv := cv k))); (have gc := (G8.below hT).cell; have oc := (O8.below hT).cell; have fho := fh.below hT; have fmo := fm.below hT; have hsz : w8.heap.size ≤ wo.heap.size := hT.size); refine Goes.mk ?_; first | ((have o7b := o7.bs; exact goes_appB _ _ rfl rfl fho rfl o7b (by omega) (by omega) hsz)) | (go_simp; first | exact goes_v | exact goes_b (by assumption) | fail | (refine goes_enter ?_; first | (go_at_call 37; ((with_reducible refine (cbd Am cm wo fmo).mono ?_); rintro e w5 ⟨⟨A5, c5, rfl, ho5, hB5⟩⟩); exact ret_p (own_isW ho5 hsz) hB5))))))); refine ObsK.nil ?_; intro wz hBz; simp only [finOn, List.drop_succ_cons, List.drop_zero, List.drop_nil]
  rintro _ ⟨A83, n83, c83, rfl, o83⟩ _ ⟨A82, n82, c82, rfl, -⟩
  go_simp
  have u83 : h + nm = n83 := by
    have h1 := o83.len
    have h2 := HX.out
    have h3 := fh.len
    rw [List.length_append] at h1
    omega
  subst u83
  have feZ := fe.below hBz
  have gS := S4.lt
  have gSw : w.heap.size ≤ kS3 := by have h1 := R2.size; have h2 := hB3.size; omega
  have gk := Z1.lt
  have gkS : k < kS3 := by have h1 := P2.lt; have h2 := hB3.size; omega
  have gkZ : k + 1 + 1 < kS3 := by have h1 := Z2.lt; have h2 := hB3.size; omega
  have gS8 : kS3 < w8.heap.size := S8.lt
  have hDM : ∀ n30 : Nat, ((L4.take h ++ X) ++ (L4.take dm).drop e).length = n30 → dm = n30 := fun n30 hn => by rw [← hn]; exact HD.out.symm
  clear cut1 cut2 cut3 cp0 cp1 cs cbd cq ci cqt
  go_wp2_with (first
    | (at_builtin; refine wpList_append_bs (w0 := w8) _ rfl _ _ _ rfl w8.heap.size 5 Try.underlying24 info_u8 A83 (h + nm) c83 (L4.take h ++ X) rfl o83 Ae ne ce ((L4.take dm).drop e) rfl feZ hBz (by omega) (by first | exact Nat.le_refl _ | exact Below.size hBz | omega | (simp <;> omega)) ?_; intro A30 n30 c30 w30 O30 hB30 _ hz30; have u30 := hDM n30 O30.len; subst u30; have S30 := S8.below hB30; have Sc30 := S30.cell; have P30 := P8.below hB30; have Z30 := Z8.below hB30; (obtain ⟨w31, hw31, S31⟩ : ∃ wf, w30.setCell ⟨kS3, 3, none⟩ (.slice A30 dm c30) = wf ∧ Sto w30 kS3 wf #[.int .u8 s.ty, .int .u8 s.code, .int .u32 s.rest, .slice A30 dm c30] 42 := ⟨_, rfl, by have h := (Sto.nil S30).set 3 (.slice A30 dm c30); simp only [List.setIfInBounds_toArray, List.set_cons_zero, List.set_cons_succ] at h; exact h⟩); have P31 := S31.other (by omega) P30; have Pc31 := P31.cell; (obtain ⟨w32, hw32, P32⟩ : ∃ wf, (w31.setCell ⟨k, 5, none⟩ (.int .u32 sa)).setCell ⟨k, 6, none⟩ (.int .u32 sb) = wf ∧ Sto w31 k wf #[.int .u8 p.tos, .int .u16 p.id, .bool p.keep, .int .u8 p.ttl, .int .u8 p.proto, .int .u32 sa, .int .u32 sb, .slice A1 n1 c1, .slice A2 n2 c2] 26 := ⟨_, rfl, by have h := ((Sto.nil P31).set 5 (.int .u32 sa)).set 6 (.int .u32 sb); simp only [List.setIfInBounds_toArray, List.set_cons_zero, List.set_cons_succ] at h; exact h⟩); have Pc32 := P32.blk.cell; have S32 := P32.other (by omega) S31.blk; have Sc32 := S32.cell; have Z32 := P32.other (by omega) (S31.other (by omega) Z30); have Zc32 := Z32.cell; have R32 : Below w.heap.size w w32 := P32.bel (S31.bel (below_then R8 hB30) gSw) (by omega); have D32 := (P32.own (S31.own O30 (fun a h => by have := O30.ge a h; omega)) (fun a h => by have := O30.ge a h; omega)).bs; have x32 := k1.below R32; clear hDM hei hhi hsum)
    | (go_at_call 38; ((with_reducible refine (cb A30 dm c30 w32 x32 D32 (by omega)).mono ?_); rintro e w33 ⟨⟨E1, e1', f1', E2, e2', f2', rfl, r1, r2, hB33⟩⟩); have Z33 := Z32.below hB33; have Zc33 := Z33.cell; have R33 := below_then R32 hB33))
  have zl := Z32.lt
  have sz := R32.size
  obtain ⟨wf, hwf, Sf⟩ := store9 Z33 (.int .u8 Q.tos) (.int .u16 Q.id) (.bool Q.keep) (.int .u8 Q.ttl) (.int .u8 Q.proto) (.int .u32 Q.src) (.int .u32 Q.dst) (.slice E1 e1' f1') (.slice E2 e2' f2')
  rw [hwf]
  have pf := Sf.blk.cell
  exact bodyPost_ret (v := .tuple #[(.agg #[.int .u8 (Q).tos, .int .u16 (Q).id, .bool (Q).keep, .int .u8 (Q).ttl, .int .u8 (Q).proto, .int .u32 (Q).src, .int .u32 (Q).dst, .slice E1 e1' f1', .slice E2 e2' f2']), .int .i64 E]) (by simp [results, Try.results14, go_sem, pf]) rfl ⟨⟨E1, e1', f1', E2, e2', f2', rfl, (Sf.own r1 (fun a h => by have := r1.ge a h; omega)).mono (by omega), (Sf.own r2 (fun a h => by have := r2.ge a h; omega)).mono (by omega), Sf.bel R33 (by omega)⟩⟩

end Go.Proofs.Ytjhpmeagopdaiaa

namespace Go.Proofs.Ytjhpmeagopdaiaa
open Go.RowKit
set_option linter.unusedVariables false
set_option linter.unusedSimpArgs false
set_option maxHeartbeats 8000000
set_option maxRecDepth 100000

theorem rq_no1 (p : Pkt) (A1 : Option Addr) (n1 c1 : Nat) (A2 : Option Addr) (n2 c2 : Nat) (w : World) (k2 : Bs w A2 n2 c2 p.dat) (sa sb : Int) (t : Tup) (U : Tup) (E : Int)
    (cq : ∀ W, Bs W A2 n2 c2 p.dat → Calls Try.prog 31 #[(.agg #[.int .u8 (p).tos, .int .u16 (p).id, .bool (p).keep, .int .u8 (p).ttl, .int .u8 (p).proto, .int .u32 (p).src, .int .u32 (p).dst, .slice A1 n1 c1, .slice A2 n2 c2])] W (TtPost W U E)) (h0 : E ≠ 0) :
    Calls Try.prog 14 #[(.agg #[.int .u8 (p).tos, .int .u16 (p).id, .bool (p).keep, .int .u8 (p).ttl, .int .u8 (p).proto, .int .u32 (p).src, .int .u32 (p).dst, .slice A1 n1 c1, .slice A2 n2 c2]), .int .u32 sa, .int .u32 sb, (.agg #[.int .u8 (t).proto, .int .u32 (t).src, .int .u32 (t).dst, .int .u16 (t).sp, .int .u16 (t).dp])] w (WiPost w zP E) := by
  have h0b : (E != 0) = true := by simpa using h0
  clear h0
  obtain ⟨k, hk⟩ : ∃ k : Nat, w.heap.size = k := ⟨_, rfl⟩
  obtain ⟨w1, hw1⟩ : ∃ W, (((w.alloc (.cells #[.int .u8 (p).tos, .int .u16 (p).id, .bool (p).keep, .int .u8 (p).ttl, .int .u8 (p).proto, .int .u32 (p).src, .int .u32 (p).dst, .slice A1 n1 c1, .slice A2 n2 c2] 26)).alloc (.cells #[.int .u8 (t).proto, .int .u32 (t).src, .int .u32 (t).dst, .int .u16 (t).sp, .int .u16 (t).dp] 28)).alloc (.cells #[.int .u8 0, .int .u16 0, .bool false, .int .u8 0, .int .u8 0, .int .u32 0, .int .u32 0, .slice none 0 0, .slice none 0 0] 26)) = W := ⟨_, rfl⟩
  have P1 : Blk w1 k #[.int .u8 (p).tos, .int .u16 (p).id, .bool (p).keep, .int .u8 (p).ttl, .int .u8 (p).proto, .int .u32 (p).src, .int .u32 (p).dst, .slice A1 n1 c1, .slice A2 n2 c2] 26 := by rw [← hw1]; exact (((blk_new _ _ _ k (by simp [hk])).alloc _).alloc _)
  have O1 : Blk w1 (k + 1) #[.int .u8 (t).proto, .int .u32 (t).src, .int .u32 (t).dst, .int .u16 (t).sp, .int .u16 (t).dp] 28 := by rw [← hw1]; exact ((blk_new _ _ _ (k + 1) (by simp [hk])).alloc _)
  have Z1 : Blk w1 (k + 1 + 1) #[.int .u8 0, .int .u16 0, .bool false, .int .u8 0, .int .u8 0, .int .u32 0, .int .u32 0, .slice none 0 0, .slice none 0 0] 26 := by rw [← hw1]; exact (blk_new _ _ _ (k + 1 + 1) (by simp [hk]))
  have R1 : Below w.heap.size w w1 := by rw [← hw1]; (repeat (first | with_reducible exact Below.refl _ _ | with_reducible refine below_drew ?_ | with_reducible refine below_drewN ?_ _ | with_reducible refine below_alloc ?_ (Nat.le_refl _) _ | with_reducible refine Below.setCell ?_ (by first | exact Nat.le_refl _ | (simp only []; omega)) _ | with_reducible assumption))
  have Pc1 := P1.cell
  have Oc1 := O1.cell
  have Zc1 := Z1.cell
  have Pl1 := P1.lt
  have Ol1 := O1.lt
  have Zl1 := Z1.lt
  have y1 := (k2).below R1
  go_enter Try.func14, Try.ntmps14
  go_wp2_with (go_at_call 31; ((with_reducible refine (cq w1 y1).mono ?_); rintro e u2 ⟨⟨rfl, hB2⟩⟩); (obtain ⟨w2, hw2⟩ : ∃ W, u2.alloc (.cells #[.int .u8 (U).proto, .int .u32 (U).src, .int .u32 (U).dst, .int .u16 (U).sp, .int .u16 (U).dp] 28) = W := ⟨_, rfl⟩); have V2 : Below u2.heap.size u2 w2 := (by rw [← hw2]; (repeat (first | with_reducible exact Below.refl _ _ | with_reducible refine below_drew ?_ | with_reducible refine below_drewN ?_ _ | with_reducible refine below_alloc ?_ (Nat.le_refl _) _ | with_reducible refine Below.setCell ?_ (by first | exact Nat.le_refl _ | (simp only []; omega)) _ | with_reducible assumption))); (obtain ⟨kG2, hkG2⟩ : ∃ k : Nat, u2.heap.size = k := ⟨_, rfl⟩); have G2 : Blk w2 kG2 #[.int .u8 (U).proto, .int .u32 (U).src, .int .u32 (U).dst, .int .u16 (U).sp, .int .u16 (U).dp] 28 := (by rw [← hw2]; exact blk_new u2 _ _ _ hkG2); have Gc2 := G2.cell; have T2 := below_then hB2 V2; have P2 := P1.below T2; have Pc2 := P2.cell; clear Pc1; have O2 := O1.below T2; have Oc2 := O2.cell; clear Oc1; have Z2 := Z1.below T2; have Zc2 := Z2.cell; clear Zc1; have y2 := y1.below T2; have R2 := below_then R1 T2)
  obtain ⟨wf, hwf, Sf⟩ := store9 Z2 (.int .u8 0) (.int .u16 0) (.bool false) (.int .u8 0) (.int .u8 0) (.int .u32 0) (.int .u32 0) (.slice none 0 0) (.slice none 0 0)
  rw [hwf]
  have pf := Sf.blk.cell
  exact bodyPost_ret (v := .tuple #[.agg #[.int .u8 0, .int .u16 0, .bool false, .int .u8 0, .int .u8 0, .int .u32 0, .int .u32 0, .slice none 0 0, .slice none 0 0], .int .i64 E]) (by simp [results, Try.results14, go_sem, pf]) rfl (wiPost_no (Sf.bel R2 (by omega)))

theorem rq_no2 (p : Pkt) (A1 : Option Addr) (n1 c1 : Nat) (A2 : Option Addr) (n2 c2 : Nat) (w : World) (k2 : Bs w A2 n2 c2 p.dat) (sa sb : Int) (t : Tup) (U : Tup)
    (cq : ∀ W, Bs W A2 n2 c2 p.dat → Calls Try.prog 31 #[(.agg #[.int .u8 (p).tos, .int .u16 (p).id, .bool (p).keep, .int .u8 (p).ttl, .int .u8 (p).proto, .int .u32 (p).src, .int .u32 (p).dst, .slice A1 n1 c1, .slice A2 n2 c2])] W (TtPost W U 0)) (hne : (U.proto != t.proto) = true) :
    Calls Try.prog 14 #[(.agg #[.int .u8 (p).tos, .int .u16 (p).id, .bool (p).keep, .int .u8 (p).ttl, .int .u8 (p).proto, .int .u32 (p).src, .int .u32 (p).dst, .slice A1 n1 c1, .slice A2 n2 c2]), .int .u32 sa, .int .u32 sb, (.agg #[.int .u8 (t).proto, .int .u32 (t).src, .int .u32 (t).dst, .int .u16 (t).sp, .int .u16 (t).dp])] w (WiPost w zP 12) := by
  obtain ⟨k, hk⟩ : ∃ k : Nat, w.heap.size = k := ⟨_, rfl⟩
  obtain ⟨w1, hw1⟩ : ∃ W, (((w.alloc (.cells #[.int .u8 (p).tos, .int .u16 (p).id, .bool (p).keep, .int .u8 (p).ttl, .int .u8 (p).proto, .int .u32 (p).src, .int .u32 (p).dst, .slice A1 n1 c1, .slice A2 n2 c2] 26)).alloc (.cells #[.int .u8 (t).proto, .int .u32 (t).src, .int .u32 (t).dst, .int .u16 (t).sp, .int .u16 (t).dp] 28)).alloc (.cells #[.int .u8 0, .int .u16 0, .bool false, .int .u8 0, .int .u8 0, .int .u32 0, .int .u32 0, .slice none 0 0, .slice none 0 0] 26)) = W := ⟨_, rfl⟩
  have P1 : Blk w1 k #[.int .u8 (p).tos, .int .u16 (p).id, .bool (p).keep, .int .u8 (p).ttl, .int .u8 (p).proto, .int .u32 (p).src, .int .u32 (p).dst, .slice A1 n1 c1, .slice A2 n2 c2] 26 := by rw [← hw1]; exact (((blk_new _ _ _ k (by simp [hk])).alloc _).alloc _)
  have O1 : Blk w1 (k + 1) #[.int .u8 (t).proto, .int .u32 (t).src, .int .u32 (t).dst, .int .u16 (t).sp, .int .u16 (t).dp] 28 := by rw [← hw1]; exact ((blk_new _ _ _ (k + 1) (by simp [hk])).alloc _)
  have Z1 : Blk w1 (k + 1 + 1) #[.int .u8 0, .int .u16 0, .bool false, .int .u8 0, .int .u8 0, .int .u32 0, .int .u32 0, .slice none 0 0, .slice none 0 0] 26 := by rw [← hw1]; exact (blk_new _ _ _ (k + 1 + 1) (by simp [hk]))
  have R1 : Below w.heap.size w w1 := by rw [← hw1]; (repeat (first | with_reducible exact Below.refl _ _ | with_reducible refine below_drew ?_ | with_reducible refine below_drewN ?_ _ | with_reducible refine below_alloc ?_ (Nat.le_refl _) _ | with_reducible refine Below.setCell ?_ (by first | exact Nat.le_refl _ | (simp only []; omega)) _ | with_reducible assumption))
  have Pc1 := P1.cell
  have Oc1 := O1.cell
  have Zc1 := Z1.cell
  have Pl1 := P1.lt
  have Ol1 := O1.lt
  have Zl1 := Z1.lt
  have y1 := (k2).below R1
  go_enter Try.func14, Try.ntmps14
  go_wp2_with (go_at_call 31; ((with_reducible refine (cq w1 y1).mono ?_); rintro e u2 ⟨⟨rfl, hB2⟩⟩); (obtain ⟨w2, hw2⟩ : ∃ W, u2.alloc (.cells #[.int .u8 (U).proto, .int .u32 (U).src, .int .u32 (U).dst, .int .u16 (U).sp, .int .u16 (U).dp] 28) = W := ⟨_, rfl⟩); have V2 : Below u2.heap.size u2 w2 := (by rw [← hw2]; (repeat (first | with_reducible exact Below.refl _ _ | with_reducible refine below_drew ?_ | with_reducible refine below_drewN ?_ _ | with_reducible refine below_alloc ?_ (Nat.le_refl _) _ | with_reducible refine Below.setCell ?_ (by first | exact Nat.le_refl _ | (simp only []; omega)) _ | with_reducible assumption))); (obtain ⟨kG2, hkG2⟩ : ∃ k : Nat, u2.heap.size = k := ⟨_, rfl⟩); have G2 : Blk w2 kG2 #[.int .u8 (U).proto, .int .u32 (U).src, .int .u32 (U).dst, .int .u16 (U).sp, .int .u16 (U).dp] 28 := (by rw [← hw2]; exact blk_new u2 _ _ _ hkG2); have Gc2 := G2.cell; have T2 := below_then hB2 V2; have P2 := P1.below T2; have Pc2 := P2.cell; clear Pc1; have O2 := O1.below T2; have Oc2 := O2.cell; clear Oc1; have Z2 := Z1.below T2; have Zc2 := Z2.cell; clear Zc1; have y2 := y1.below T2; have R2 := below_then R1 T2)
  obtain ⟨wf, hwf, Sf⟩ := store9 Z2 (.int .u8 0) (.int .u16 0) (.bool false) (.int .u8 0) (.int .u8 0) (.int .u32 0) (.int .u32 0) (.slice none 0 0) (.slice none 0 0)
  rw [hwf]
  have pf := Sf.blk.cell
  exact bodyPost_ret (v := .tuple #[.agg #[.int .u8 0, .int .u16 0, .bool false, .int .u8 0, .int .u8 0, .int .u32 0, .int .u32 0, .slice none 0 0, .slice none 0 0], .int .i64 12]) (by simp [results, Try.results14, go_sem, pf]) rfl (wiPost_no (Sf.bel R2 (by omega)))

def rqH (p : Pkt) : Nat := 20 + (rdPk true (icM p).dat).opt.length
def rqN (p : Pkt) : Nat := rqH p + (rdPk true (icM p).dat).dat.length
def rqD (p : Pkt) (t : Tup) : List UInt8 := rqDat (icM p).dat (rqH p) (rqN p) (quT p) t
def rqM (p : Pkt) (t : Tup) : Msg := { icM p with dat := rqD p t }
def rqQ (p : Pkt) (sa sb : Int) : Pkt := { p with src := sa, dst := sb }
def rqE (p : Pkt) (sa sb : Int) (t : Tup) : Int := if quE p ≠ 0 then quE p else if (quT p).proto ≠ t.proto then 12 else wiE (rqQ p sa sb) (8 + (rqM p t).dat.length)
def rqP (p : Pkt) (sa sb : Int) (t : Tup) : Pkt := if quE p ≠ 0 then zP else if (quT p).proto ≠ t.proto then zP else withP (rqQ p sa sb) 1 (mS (rqM p t))
theorem rqM_ok (p : Pkt) (t : Tup) : (rqM p t).Ok := by
  obtain ⟨a, b, c⟩ := icM_ok p
  exact ⟨a, b, c⟩
theorem quE_zero {p : Pkt} (h : quE p = 0) : icE p = 0 ∧ isErrM (icM p) = true ∧ rdE true (icM p).dat = 0 ∧ inE (rdPk true (icM p).dat) = 0 := by
  rcases quE_ways p with ⟨e, h0⟩ | ⟨e, h0, h1⟩ | ⟨h0, h1, h2, e⟩ | ⟨h0, h1, h2, e⟩
  · rw [e] at h; exact absurd h h0
  · rw [e] at h; cases h
  · rw [e] at h; exact absurd h h2
  · exact ⟨h0, h1, h2, by rw [← e]; exact h⟩
theorem rq_bounds {l : List UInt8} (h : rdE true l = 0) : 20 + (rdPk true l).opt.length = (hdOf l).toNat ∧ 20 + (rdPk true l).opt.length + (rdPk true l).dat.length = (alOf l).toNat ∧ 20 ≤ hdOf l ∧ hdOf l ≤ alOf l ∧ alOf l ≤ l.length ∧ hdOf l ≤ 60 := by
  have hr := h
  unfold rdE at h
  split at h
  · rename_i h1; exact absurd h h1
  rename_i h1
  have h1' : lenE true l = 0 := by simpa using h1
  obtain ⟨f1, f2, f3, f4, f5, f6, f7, f8, f9⟩ := len_facts h1'
  unfold rdPk
  rw [if_pos hr]
  unfold rdP
  simp only [List.length_drop, List.length_take]
  refine ⟨by omega, by omega, f3, f5, f6, f7⟩
theorem inT_ok {q : Pkt} (hq : q.Ok) : (inT q).Ok := by
  have hz : zT.Ok := ⟨by decide, by decide, by decide, by decide, by decide⟩
  have b : ∀ x, 0 ≤ get16 q.dat x ∧ get16 q.dat x ≤ 65535 := fun x => ⟨get16_lo _ _, get16_hi _ _⟩
  have z : (0 : Int) ≤ 0 ∧ (0 : Int) ≤ 65535 := by omega
  unfold inT tuP
  split
  · exact hz
  · refine ⟨hq.4, hq.5, hq.6, ?_, ?_⟩
    · show 0 ≤ inA q ∧ inA q ≤ 65535
      unfold inA
      split
      · exact b _
      split
      · exact b _
      split
      · exact b _
      · exact z
    · show 0 ≤ inB q ∧ inB q ≤ 65535
      unfold inB
      split
      · exact b _
      split
      · exact b _
      split
      · exact b _
      · exact b _
theorem quT_ok (p : Pkt) : (quT p).Ok := by
  unfold quT
  split
  · exact inT_ok (rdPk_ok _ _)
  · exact ⟨by decide, by decide, by decide, by decide, by decide⟩
theorem requote_any (p : Pkt) (A1 : Option Addr) (n1 c1 : Nat) (A2 : Option Addr) (n2 c2 : Nat) (w : World) (k1 : Bs w A1 n1 c1 p.opt) (k2 : Bs w A2 n2 c2 p.dat) (h7 : n2 ≤ 140737488351232) (sa sb : Int) (t : Tup) (ht : t.Ok) :
    Calls Try.prog 14 #[(.agg #[.int .u8 (p).tos, .int .u16 (p).id, .bool (p).keep, .int .u8 (p).ttl, .int .u8 (p).proto, .int .u32 (p).src, .int .u32 (p).dst, .slice A1 n1 c1, .slice A2 n2 c2]), .int .u32 sa, .int .u32 sb, (.agg #[.int .u8 (t).proto, .int .u32 (t).src, .int .u32 (t).dst, .int .u16 (t).sp, .int .u16 (t).dp])] w (WiPost w (rqP p sa sb t) (rqE p sa sb t)) := by
  have cq := fun W k => quo_any p A1 n1 c1 A2 n2 c2 W k
  unfold rqP rqE
  by_cases h0 : quE p = 0
  case neg =>
    rw [if_pos h0, if_pos h0]
    exact rq_no1 p A1 n1 c1 A2 n2 c2 w k2 sa sb t _ _ cq h0
  have n0 : ¬ (quE p ≠ 0) := by simpa using h0
  rw [if_neg n0, if_neg n0]
  rw [h0] at cq
  by_cases h1 : (quT p).proto = t.proto
  case neg =>
    rw [if_pos h1, if_pos h1]
    exact rq_no2 p A1 n1 c1 A2 n2 c2 w k2 sa sb t _ cq (by simpa using h1)
  have n1' : ¬ ((quT p).proto ≠ t.proto) := by simpa using h1
  rw [if_neg n1', if_neg n1']
  obtain ⟨e1, e2, e3, e4⟩ := quE_zero h0
  have ci := fun W k => icmp_any p A1 n1 c1 A2 n2 c2 W k
  rw [e1] at ci
  have hl : (icM p).dat.length ≤ 140737488351232 := by
    have := k2.len
    unfold icM
    rw [if_pos e1]
    simp only [List.length_drop]
    omega
  obtain ⟨b1, b2, b3, b4, b5, b6⟩ := rq_bounds e3
  have cqt : ∀ B b1 b2 W, Bs W B b1 b2 (icM p).dat → _ := fun B b1 b2 W k => ipQuote_v (l := (icM p).dat) rfl rfl B b1 b2 W k
  rw [e3] at cqt
  refine rq_ok p A1 n1 c1 A2 n2 c2 w k1 k2 sa sb t ht (quT p) (quT_ok p) cq (by simpa using h1) (icM p) ci (rdPk true (icM p).dat) cqt (icM p).dat.length (rqH p) (rqN p) rfl _ rfl rfl rfl ?_ (rd_8 e3) hl _ _ ?_
  · unfold rqN rqH; omega
  · intro B b1 b2 W kk kd hb
    exact bicmp_any (rqQ p sa sb) A1 n1 c1 A2 n2 c2 (rqM p t) (rqM_ok p t) B b1 b2 W kk kd hb
end Go.Proofs.Ytjhpmeagopdaiaa

namespace Go.Proofs.Ytjhpmeagopdaiaa
open Go.RowKit
set_option linter.unusedVariables false
set_option linter.unusedSimpArgs false
set_option maxHeartbeats 4000000
set_option maxRecDepth 100000

theorem get16_congr {l m : List UInt8} {k : Nat} (h : k + 2 ≤ l.length) (h' : k + 2 ≤ m.length) (e0 : bt l k = bt m k) (e1 : bt l (k + 1) = bt m (k + 1)) : get16 l k = get16 m k := by
  rw [get16_in (by omega) (by omega), get16_in (by omega) (by omega), Int.toNat_natCast, e0, e1]
theorem get32_congr {l m : List UInt8} {k : Nat} (h : k + 4 ≤ l.length) (h' : k + 4 ≤ m.length) (e0 : bt l k = bt m k) (e1 : bt l (k + 1) = bt m (k + 1)) (e2 : bt l (k + 2) = bt m (k + 2)) (e3 : bt l (k + 3) = bt m (k + 3)) : get32 l k = get32 m k := by
  rw [get32_in (by omega) (by omega), get32_in (by omega) (by omega), get16_congr (by omega) (by omega) e0 e1, show ((k : Int) + 2) = ((k + 2 : Nat) : Int) from by omega, get16_congr (by omega) (by omega) e2 e3]
theorem drop_put16 {l : List UInt8} {i n : Nat} {v : Int} (h : i + 2 ≤ l.length) (hn : i + 2 ≤ n) : (put16 l i v).drop n = l.drop n := by
  rw [put16_eq h, List.drop_set_of_lt (by omega), List.drop_set_of_lt (by omega)]
theorem drop_put32 {l : List UInt8} {i n : Nat} {v : Int} (h : i + 4 ≤ l.length) (hn : i + 4 ≤ n) : (put32 l i v).drop n = l.drop n := by
  rw [put32_two h, drop_put16 (by rw [put16_length]; omega) (by omega), drop_put16 (by omega) (by omega)]
structure L4Ok (M : List UInt8) (h : Nat) (t : Tup) : Prop where
  far : ∀ j, j < 10 ∨ 20 ≤ j → bt (rqL4 M h t) j = bt M j
  src : get32 (rqL4 M h t) ((12 : Nat) : Int) = t.src
  dst : get32 (rqL4 M h t) ((16 : Nat) : Int) = t.dst
  sum : csum ((rqL4 M h t).take h) = 0
  drop : (rqL4 M h t).drop 20 = M.drop 20
theorem l4_ok {M : List UInt8} {h : Nat} {t : Tup} (ht : t.Ok) (h1 : 20 ≤ h) (h2 : h ≤ M.length) : L4Ok M h t := by
  have e0 : rqL2 M t = put32 (put32 M ((12 : Nat) : Int) t.src) ((16 : Nat) : Int) t.dst := rfl
  have la : (put32 M ((12 : Nat) : Int) t.src).length = M.length := put32_length _ _ _
  have l2 : (rqL2 M t).length = M.length := by rw [e0, put32_length, put32_length]
  have e1 : rqL4 M h t = put16 (put16 (rqL2 M t) ((10 : Nat) : Int) 0) ((10 : Nat) : Int) (csum ((put16 (rqL2 M t) ((10 : Nat) : Int) 0).take h)) := rfl
  obtain ⟨x, hx⟩ : ∃ x, csum ((put16 (rqL2 M t) ((10 : Nat) : Int) 0).take h) = x := ⟨_, rfl⟩
  have l3 : (put16 (rqL2 M t) ((10 : Nat) : Int) 0).length = M.length := by rw [put16_length, l2]
  rw [hx] at e1
  have b3 : ∀ j, j < 10 ∨ 12 ≤ j → bt (rqL4 M h t) j = bt (rqL2 M t) j := fun j hj => by
    rw [e1, bt_put16 (by rw [l3]; omega), if_neg (by omega), if_neg (by omega), bt_put16 (by rw [l2]; omega), if_neg (by omega), if_neg (by omega)]
  have b2 : ∀ j, j < 16 ∨ 20 ≤ j → bt (rqL2 M t) j = bt (put32 M ((12 : Nat) : Int) t.src) j := fun j hj => by
    rw [e0, bt_put32 (by rw [la]; omega) j (by omega)]
  have l4 : (rqL4 M h t).length = M.length := rqL4_len M h t
  refine ⟨fun j hj => ?_, ?_, ?_, ?_, ?_⟩
  · rw [b3 j (by omega), b2 j (by omega), bt_put32 (by omega) j (by omega)]
  · rw [get32_congr (m := put32 M ((12 : Nat) : Int) t.src) (by rw [l4]; omega) (by rw [la]; omega) (by rw [b3 _ (by omega), b2 _ (by omega)]) (by rw [b3 _ (by omega), b2 _ (by omega)]) (by rw [b3 _ (by omega), b2 _ (by omega)]) (by rw [b3 _ (by omega), b2 _ (by omega)])]
    exact get32_put32 ht.src.1 ht.src.2 (by omega)
  · rw [get32_congr (m := rqL2 M t) (by rw [l4]; omega) (by rw [l2]; omega) (by rw [b3 _ (by omega)]) (by rw [b3 _ (by omega)]) (by rw [b3 _ (by omega)]) (by rw [b3 _ (by omega)]), e0]
    exact get32_put32 ht.dst.1 ht.dst.2 (by rw [la]; omega)
  · have e2 : (rqL4 M h t).take h = put16 ((put16 (rqL2 M t) ((10 : Nat) : Int) 0).take h) ((2 * 5 : Nat) : Int) x := by
      rw [e1]; exact put16_take (i := 10) (by omega) (by rw [l3]; omega)
    rw [e2, ← hx]
    have lz : ((put16 (rqL2 M t) ((10 : Nat) : Int) 0).take h).length = h := by rw [List.length_take, l3]; omega
    refine good_put (by rw [lz]; omega) ?_
    have e3 : (put16 (rqL2 M t) ((10 : Nat) : Int) 0).take h = put16 ((rqL2 M t).take h) ((2 * 5 : Nat) : Int) 0 := put16_take (i := 10) (by omega) (by rw [l2]; omega)
    rw [e3]
    exact wd_put16_same (by omega) (by omega) (by rw [List.length_take, l2]; omega)
  · rw [e1, drop_put16 (by rw [l3]; omega) (by omega), drop_put16 (by rw [l2]; omega) (by omega), e0, drop_put32 (by rw [la]; omega) (by omega), drop_put32 (by omega) (by omega)]
theorem body_told {q : Pkt} (h8 : 8 ≤ q.dat.length) (hE : inE q = 0) (u t : Tup) (ht : t.Ok) (hpr : q.proto = t.proto) :
    inE { q with src := t.src, dst := t.dst, dat := bodyB q.dat u t } = 0 ∧ inT { q with src := t.src, dst := t.dst, dat := bodyB q.dat u t } = toldT t := by
  obtain ⟨l, hl⟩ : ∃ l, q.dat = l := ⟨_, rfl⟩
  rw [hl] at h8
  rw [hl]
  obtain ⟨Q, hQ⟩ : ∃ Q : Pkt, { q with src := t.src, dst := t.dst, dat := bodyB l u t } = Q := ⟨_, rfl⟩
  have qp : Q.proto = t.proto := by rw [← hQ]; exact hpr
  have qs : Q.src = t.src := by rw [← hQ]
  have qd : Q.dst = t.dst := by rw [← hQ]
  have qb : Q.dat = bodyB l u t := by rw [← hQ]
  rw [hQ]
  have e0 : ∀ (m : List UInt8) v, put16 m 0 v = put16 m ((0 : Nat) : Int) v := fun _ _ => rfl
  have e2 : ∀ (m : List UInt8) v, put16 m 2 v = put16 m ((2 : Nat) : Int) v := fun _ _ => rfl
  have e4 : ∀ (m : List UInt8) v, put16 m 4 v = put16 m ((4 : Nat) : Int) v := fun _ _ => rfl
  have e6 : ∀ (m : List UInt8) v, put16 m 6 v = put16 m ((6 : Nat) : Int) v := fun _ _ => rfl
  have e16 : ∀ (m : List UInt8) v, put16 m 16 v = put16 m ((16 : Nat) : Int) v := fun _ _ => rfl
  have g0 : ∀ (m : List UInt8), get16 m 0 = get16 m ((0 : Nat) : Int) := fun _ => rfl
  have g2 : ∀ (m : List UInt8), get16 m 2 = get16 m ((2 : Nat) : Int) := fun _ => rfl
  have g4 : ∀ (m : List UInt8), get16 m 4 = get16 m ((4 : Nat) : Int) := fun _ => rfl
  have g6 : ∀ (m : List UInt8), get16 m 6 = get16 m ((6 : Nat) : Int) := fun _ => rfl
  have two : ∀ x : List UInt8, x = put16 (put16 l 0 t.sp) 2 t.dp → x.length = l.length ∧ get16 x 0 = t.sp ∧ get16 x 2 = t.dp := fun x hx => by
    have lx : x.length = l.length := by rw [hx]; simp [put16_length]
    refine ⟨lx, ?_, ?_⟩
    · rw [hx, g0, e2, get16_put16_far (by rw [put16_length]; omega) (by rw [put16_length]; omega) (by omega), e0, get16_put16 ht.sp.1 ht.sp.2 (by omega)]
    · rw [hx, g2, e2, get16_put16 ht.dp.1 ht.dp.2 (by rw [put16_length]; omega)]
  obtain ⟨L1, hL1⟩ : ∃ L, put16 (put16 l 0 t.sp) 2 t.dp = L := ⟨_, rfl⟩
  obtain ⟨t1, t2, t3⟩ := two L1 hL1.symm
  have far : ∀ (i : Nat) v, 4 ≤ i → i + 2 ≤ L1.length → get16 (put16 L1 i v) 0 = t.sp ∧ get16 (put16 L1 i v) 2 = t.dp := fun i v hi hil => by
    rw [g0, g2, get16_put16_far hil (by omega) (by omega), get16_put16_far hil (by omega) (by omega)]
    exact ⟨t2, t3⟩
  unfold inT
  rcases inE_ways q with ⟨c, -⟩ | ⟨c, -⟩ | ⟨c, ce, -⟩ | ⟨c, ce, -⟩ | ⟨-, -, -, -, ce⟩
  · have c' : t.proto = 6 := hpr.symm.trans c
    have hq : Q.proto = 6 := qp.trans c'
    have hin : inE Q = 0 := by unfold inE; rw [if_pos hq]
    refine ⟨hin, ?_⟩
    have hg : get16 Q.dat 0 = t.sp ∧ get16 Q.dat 2 = t.dp := by
      rw [qb]
      unfold bodyB
      rw [if_pos c', hL1]
      split
      · rw [e16]; exact far 16 _ (by omega) (by omega)
      · exact ⟨t2, t3⟩
    rw [hin, tuP, if_neg (by decide), qp, qs, qd]
    unfold inA inB toldT
    rw [if_pos hq, if_pos hq, hg.1, hg.2, if_neg (by omega), if_neg (by omega)]
  · have c' : t.proto = 17 := hpr.symm.trans c
    have hq : Q.proto = 17 := qp.trans c'
    have hin : inE Q = 0 := by unfold inE; rw [if_neg (by omega), if_pos hq]
    refine ⟨hin, ?_⟩
    have hg : get16 Q.dat 0 = t.sp ∧ get16 Q.dat 2 = t.dp := by
      rw [qb]
      unfold bodyB
      rw [if_neg (by omega), if_pos c', hL1]
      split
      · exact ⟨t2, t3⟩
      split
      · rw [e6, g0, g2, get16_put16_far (by rw [e6, put16_length]; omega) (by rw [e6, put16_length]; omega) (by omega), get16_put16_far (by rw [e6, put16_length]; omega) (by rw [e6, put16_length]; omega) (by omega), e6]
        exact far 6 _ (by omega) (by omega)
      · rw [e6]; exact far 6 _ (by omega) (by omega)
    rw [hin, tuP, if_neg (by decide), qp, qs, qd]
    unfold inA inB toldT
    rw [if_neg (by omega), if_pos hq, if_neg (by omega), if_pos hq, hg.1, hg.2, if_neg (by omega), if_neg (by omega)]
  · have c' : t.proto = 1 := hpr.symm.trans c
    have hq : Q.proto = 1 := qp.trans c'
    have hb : bodyB l u t = put16 (put16 l ((4 : Nat) : Int) t.sp) ((2 : Nat) : Int) (patK (get16 (put16 l 4 t.sp) 2) (six u.sp 0 0 0 0 0) (six t.sp 0 0 0 0 0) 6) := by unfold bodyB; rw [if_neg (by omega), if_neg (by omega), if_pos c']; rfl
    have ls : (put16 l ((4 : Nat) : Int) t.sp).length = l.length := put16_length _ _ _
    have hech : qEch Q.dat = true := by
      have hx : qEch l = true := by
        rw [ce] at hE
        rw [hl] at hE
        cases hx : qEch l
        · rw [hx] at hE; cases hE
        · rfl
      rw [qb, hb]
      unfold qEch at hx ⊢
      rw [bt_put16 (by rw [ls]; omega), if_neg (by omega), if_neg (by omega), bt_put16 (by omega), if_neg (by omega), if_neg (by omega), bt_put16 (by rw [ls]; omega), if_neg (by omega), if_neg (by omega), bt_put16 (by omega), if_neg (by omega), if_neg (by omega)]
      exact hx
    have hin : inE Q = 0 := by unfold inE; rw [if_neg (by omega), if_neg (by omega), if_pos hq, hech]; simp
    refine ⟨hin, ?_⟩
    have hg : get16 Q.dat 4 = t.sp := by
      rw [qb, hb, g4, get16_put16_far (by rw [ls]; omega) (by rw [ls]; omega) (by omega), get16_put16 ht.sp.1 ht.sp.2 (by omega)]
    rw [hin, tuP, if_neg (by decide), qp, qs, qd]
    unfold inA inB toldT
    rw [if_neg (by omega), if_neg (by omega), if_pos hq, if_neg (by omega), if_neg (by omega), if_pos hq, hg, if_pos c']
  · have c' : t.proto = 47 := hpr.symm.trans c
    have hq : Q.proto = 47 := qp.trans c'
    have hb : bodyB l u t = put16 l ((6 : Nat) : Int) t.dp := by unfold bodyB; rw [if_neg (by omega), if_neg (by omega), if_neg (by omega)]; rfl
    have hech : begB Q.dat = true := by
      have hx : begB l = true := by
        rw [ce] at hE
        rw [hl] at hE
        cases hx : begB l
        · rw [hx] at hE; cases hE
        · rfl
      rw [qb, hb]
      unfold begB at hx ⊢
      rw [bt_put16 (by omega), if_neg (by omega), if_neg (by omega), bt_put16 (by omega), if_neg (by omega), if_neg (by omega), bt_put16 (by omega), if_neg (by omega), if_neg (by omega), bt_put16 (by omega), if_neg (by omega), if_neg (by omega)]
      exact hx
    have hin : inE Q = 0 := by unfold inE; rw [if_neg (by omega), if_neg (by omega), if_neg (by omega), if_pos hq, hech]; simp
    refine ⟨hin, ?_⟩
    have hg : get16 Q.dat 6 = t.dp := by rw [qb, hb, g6, get16_put16 ht.dp.1 ht.dp.2 (by omega)]
    rw [hin, tuP, if_neg (by decide), qp, qs, qd]
    unfold inA inB toldT
    rw [if_neg (by omega), if_neg (by omega), if_neg (by omega), if_neg (by omega), if_neg (by omega), if_neg (by omega), hg, if_neg (by omega), if_pos c']
  · rw [ce] at hE; cases hE
theorem dat_told {M : List UInt8} (hE : rdE true M = 0) (u t : Tup) (ht : t.Ok) (D : List UInt8) (hD : D = rqDat M (20 + (rdPk true M).opt.length) (20 + (rdPk true M).opt.length + (rdPk true M).dat.length) u t) :
    D.length = M.length ∧ rdE true D = 0 ∧ rdPk true D = { rdPk true M with src := t.src, dst := t.dst, dat := bodyB (rdPk true M).dat u t } := by
  obtain ⟨b1, b2, b3, b4, b5, b6⟩ := rq_bounds hE
  have hr : rdPk true M = rdP M := by unfold rdPk; rw [if_pos hE]
  obtain ⟨h, hh⟩ : ∃ h, 20 + (rdPk true M).opt.length = h := ⟨_, rfl⟩
  obtain ⟨e, he⟩ : ∃ e, h + (rdPk true M).dat.length = e := ⟨_, rfl⟩
  rw [hh] at b1 b2 hD
  rw [he] at b2 hD
  have h20 : 20 ≤ h := by omega
  have hhM : h ≤ M.length := by omega
  have hhe : h ≤ e := by omega
  have heM : e ≤ M.length := by omega
  obtain ⟨o1, o2, o3, o4, o5⟩ := l4_ok (M := M) (h := h) ht h20 hhM
  have l4 := rqL4_len M h t
  have hDl : D.length = M.length := by rw [hD]; exact rqDat_len u t hhe heM
  have dh : (rqL4 M h t).drop h = M.drop h := by
    have := congrArg (List.drop (h - 20)) o5
    rwa [List.drop_drop, List.drop_drop, show 20 + (h - 20) = h from by omega] at this
  have mid : ((rqL4 M h t).take e).drop h = (M.take e).drop h := by rw [List.drop_take, List.drop_take, dh]
  have qdat : (rdPk true M).dat = (M.take e).drop h := by
    rw [hr]
    show (M.take (alOf M).toNat).drop (hdOf M).toNat = _
    rw [← b2, ← b1]
  have qopt : (rdPk true M).opt = (M.take h).drop 20 := by
    rw [hr]
    show (M.take (hdOf M).toNat).drop 20 = _
    rw [← b1]
  obtain ⟨X, hX⟩ : ∃ X, bodyB ((M.take e).drop h) u t = X := ⟨_, rfl⟩
  have lX : X.length = e - h := by rw [← hX, bodyB_len, List.length_drop, List.length_take]; omega
  have hD2 : D = ((rqL4 M h t).take h ++ X) ++ ((rqL4 M h t).take M.length).drop e := by rw [hD]; unfold rqDat; rw [mid, hX]
  have lt : ((rqL4 M h t).take h).length = h := by rw [List.length_take, l4]; omega
  have dth : D.take h = (rqL4 M h t).take h := by
    rw [hD2, List.append_assoc]
    exact List.take_left' lt
  have dte : (D.take e).drop h = X := by
    rw [hD2, List.take_left' (by rw [List.length_append, lt, lX]; omega)]
    exact List.drop_left' lt
  have db : ∀ j, j < h → bt D j = bt (rqL4 M h t) j := fun j hj => by
    rw [← bt_take (l := D) hj, dth, bt_take hj]
  have dm : ∀ j, j < h → (j < 10 ∨ 20 ≤ j) → bt D j = bt M j := fun j hj hf => (db j hj).trans (o1 j hf)
  have g : ∀ j : Nat, j + 2 ≤ 10 → get16 D j = get16 M j := fun j hj => get16_congr (by rw [hDl]; omega) (by omega) (dm j (by omega) (by omega)) (dm (j + 1) (by omega) (by omega))
  have q2 : get16 D 2 = get16 M 2 := g 2 (by omega)
  have q4 : get16 D 4 = get16 M 4 := g 4 (by omega)
  have q6 : get16 D 6 = get16 M 6 := g 6 (by omega)
  have hdo : hdOf D = hdOf M := by unfold hdOf; rw [dm 0 (by omega) (by omega)]
  have hal : alOf D = alOf M := by unfold alOf; rw [hDl, q2]
  have hle : lenE true D = lenE true M := by unfold lenE; rw [hDl, dm 0 (by omega) (by omega), hdo, q2]
  have hE2 : rdE true D = 0 := by
    unfold rdE at hE ⊢
    rw [hle, hdo, hal, q6, ← b1, dth, o4]
    split at hE
    · rename_i hc; exact absurd hE hc
    rename_i hc
    rw [if_neg hc, if_neg (by simp)]
    split at hE
    · cases hE
    exact hE
  refine ⟨hDl, hE2, ?_⟩
  have hr2 : rdPk true D = rdP D := by unfold rdPk; rw [if_pos hE2]
  have s12 : get32 D 12 = t.src := by
    have := get32_congr (l := D) (m := rqL4 M h t) (k := 12) (by rw [hDl]; omega) (by rw [l4]; omega) (db _ (by omega)) (db _ (by omega)) (db _ (by omega)) (db _ (by omega))
    exact this.trans o2
  have s16 : get32 D 16 = t.dst := by
    have := get32_congr (l := D) (m := rqL4 M h t) (k := 16) (by rw [hDl]; omega) (by rw [l4]; omega) (db _ (by omega)) (db _ (by omega)) (db _ (by omega)) (db _ (by omega))
    exact this.trans o3
  have hopt : (D.take h).drop 20 = (M.take h).drop 20 := by rw [dth, List.drop_take, List.drop_take, o5]
  rw [hr2]
  unfold rdP
  rw [hdo, hal, ← b1, ← b2, dte, hopt, s12, s16, q4, q6, dm 1 (by omega) (by omega), dm 8 (by omega) (by omega), dm 9 (by omega) (by omega), ← qopt, qdat, hX, hr]
  rfl
structure RqOk (p : Pkt) (sa sb : Int) (t : Tup) (q : Pkt) : Prop where
  form : q = ⟨p.tos, p.id, p.keep, p.ttl, 1, sa, sb, p.opt, mS (rqM p t)⟩
  e : quE q = 0
  tt : quT q = toldT t
  src : q.src = sa
  dst : q.dst = sb
  ie : icE p = 0
  im : icE q = 0 ∧ icM q = rqM p t
  len : (rqM p t).dat.length = (icM p).dat.length
  small : q.dat.length ≤ 65535 ∧ q.dat.length = p.dat.length
  ok : p.Ok → (0 ≤ sa ∧ sa ≤ 4294967295) → (0 ≤ sb ∧ sb ≤ 4294967295) → q.Ok
theorem rq_told {p : Pkt} {sa sb : Int} {t : Tup} (ht : t.Ok) (h : rqE p sa sb t = 0) : RqOk p sa sb t (rqP p sa sb t) := by
  unfold rqE at h
  unfold rqP
  by_cases h0 : quE p = 0
  case neg => rw [if_pos h0] at h; exact absurd h h0
  have n0 : ¬ (quE p ≠ 0) := by simpa using h0
  rw [if_neg n0] at h ⊢
  by_cases h1 : (quT p).proto = t.proto
  case neg => rw [if_pos h1] at h; cases h
  have n1 : ¬ ((quT p).proto ≠ t.proto) := by simpa using h1
  rw [if_neg n1] at h ⊢
  obtain ⟨e1, e2, e3, e4⟩ := quE_zero h0
  have hT : quT p = inT (rdPk true (icM p).dat) := by unfold quT; rw [if_pos h0]
  have hpr : (rdPk true (icM p).dat).proto = t.proto := by
    rw [hT] at h1
    unfold inT tuP at h1
    rw [e4, if_neg (by decide)] at h1
    exact h1
  obtain ⟨d1, d2, d3⟩ := dat_told e3 (quT p) t ht (rqD p t) rfl
  obtain ⟨m1, m2⟩ := body_told (rd_8 e3) e4 (quT p) t ht hpr
  have hw : wiE (rqQ p sa sb) (mS (rqM p t)).length = 0 := by rw [mS_len]; exact h
  have hP : withP (rqQ p sa sb) 1 (mS (rqM p t)) = { rqQ p sa sb with proto := 1, dat := mS (rqM p t) } := by unfold withP; rw [if_pos hw]
  obtain ⟨i1, i2⟩ := ic_back (rqQ p sa sb) (rqM p t) (rqM_ok p t)
  rw [hP]
  have herr : isErrM (rqM p t) = true := e2
  have hq : quE { rqQ p sa sb with proto := 1, dat := mS (rqM p t) } = 0 := by
    unfold quE
    rw [i1, i2, herr, if_neg (by decide), if_neg (by decide)]
    show (if rdE true (rqD p t) ≠ 0 then _ else inE (rdPk true (rqD p t))) = 0
    rw [d2, d3, if_neg (by decide), m1]
  obtain ⟨w1, w2, w3⟩ := wiE_zero hw
  have hic := ic_fit e1
  refine ⟨rfl, hq, ?_, rfl, rfl, e1, ⟨i1, i2⟩, d1, ⟨?_, ?_⟩, ?_⟩
  · unfold quT
    rw [if_pos hq, i2]
    show inT (rdPk true (rqD p t)) = _
    rw [d3, m2]
  · show (mS (rqM p t)).length ≤ 65535; omega
  · show (mS (rqM p t)).length = _
    rw [mS_len]
    show 8 + (rqD p t).length = _
    rw [d1]; exact hic
  · intro hp hs hd
    exact ⟨hp.1, hp.2, hp.3, (by show (0 : Int) ≤ 1 ∧ (1 : Int) ≤ 255; decide), hs, hd⟩
theorem rq_bad {p : Pkt} {sa sb : Int} {t : Tup} (h : rqE p sa sb t ≠ 0) : rqP p sa sb t = zP := by
  unfold rqE at h
  unfold rqP
  split
  · rfl
  rename_i h1
  rw [if_neg h1] at h
  split
  · rfl
  rename_i h2
  rw [if_neg h2] at h
  unfold withP
  rw [mS_len, if_neg h]
end Go.Proofs.Ytjhpmeagopdaiaa


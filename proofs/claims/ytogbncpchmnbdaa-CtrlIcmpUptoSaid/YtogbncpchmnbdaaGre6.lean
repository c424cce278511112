/- A packet's frame. -/
import Derived.Test.YtogbncpchmnbdaaGre5
namespace Go.Proofs.Ytogbncpchmnbdaa
open Go.RowKit
set_option linter.unusedVariables false
set_option linter.unusedSimpArgs false
set_option linter.unusedSimpArgs false
set_option maxHeartbeats 4000000
set_option maxRecDepth 100000

theorem gre_no (p : Pkt) (A1 : Option Addr) (n1 c1 : Nat) (A2 : Option Addr) (n2 c2 : Nat) (w : World) (k2 : Bs w A2 n2 c2 p.dat) (E : Int)
    (h : (E = 12 ∧ (p.proto != 47) = true) ∨ (E = 3 ∧ (p.proto != 47) = false ∧ (n2 : Int) < 8)) :
    Calls Try.prog 32 #[(.agg #[.int .u8 (p).tos, .int .u16 (p).id, .bool (p).keep, .int .u8 (p).ttl, .int .u8 (p).proto, .int .u32 (p).src, .int .u32 (p).dst, .slice A1 n1 c1, .slice A2 n2 c2])] w (FrPost w zF E) := by
  have b2 := k2.max
  obtain ⟨k, hk⟩ : ∃ k : Nat, w.heap.size = k := ⟨_, rfl⟩
  obtain ⟨w1, hw1⟩ : ∃ w1, (w.alloc (.cells #[.int .u8 (p).tos, .int .u16 (p).id, .bool (p).keep, .int .u8 (p).ttl, .int .u8 (p).proto, .int .u32 (p).src, .int .u32 (p).dst, .slice A1 n1 c1, .slice A2 n2 c2] 26)).alloc (.cells #[.int .u16 0, .bool false, .bool false, .int .u32 0, .int .u32 0, .slice none 0 0] 30) = w1 := ⟨_, rfl⟩
  have P1 : Blk w1 k #[.int .u8 (p).tos, .int .u16 (p).id, .bool (p).keep, .int .u8 (p).ttl, .int .u8 (p).proto, .int .u32 (p).src, .int .u32 (p).dst, .slice A1 n1 c1, .slice A2 n2 c2] 26 := by rw [← hw1]; exact (blk_new w _ _ k hk).alloc _
  have Z1 : Blk w1 (k + 1) #[.int .u16 0, .bool false, .bool false, .int .u32 0, .int .u32 0, .slice none 0 0] 30 := by rw [← hw1]; exact blk_new _ _ _ (k + 1) (by simp [hk])
  have R1 : Below w.heap.size w w1 := by rw [← hw1]; (repeat (first | with_reducible exact Below.refl _ _ | with_reducible refine below_drew ?_ | with_reducible refine below_drewN ?_ _ | with_reducible refine below_alloc ?_ (Nat.le_refl _) _ | with_reducible refine Below.setCell ?_ (by first | exact Nat.le_refl _ | (simp only []; omega)) _ | with_reducible assumption))
  have pc := P1.cell
  have zc := Z1.cell
  have kl1 := P1.lt
  have zl1 := Z1.lt
  obtain ⟨gb, hgb⟩ : ∃ gb : Nat, w1.heap.size = gb := ⟨_, rfl⟩
  obtain ⟨w2, hw2⟩ : ∃ w2, w1.alloc (.cells #[.slice A2 n2 c2] 24) = w2 := ⟨_, rfl⟩
  have K2 : Blk w2 gb #[.slice A2 n2 c2] 24 := by rw [← hw2]; exact blk_new w1 _ _ gb hgb
  have V2 : Below w1.heap.size w1 w2 := by rw [← hw2]; (repeat (first | with_reducible exact Below.refl _ _ | with_reducible refine below_drew ?_ | with_reducible refine below_drewN ?_ _ | with_reducible refine below_alloc ?_ (Nat.le_refl _) _ | with_reducible refine Below.setCell ?_ (by first | exact Nat.le_refl _ | (simp only []; omega)) _ | with_reducible assumption))
  have T2 := below_then R1 V2
  have P2 := P1.below V2
  have Z2 := Z1.below V2
  have pc2 := P2.cell
  have zc2 := Z2.cell
  have kc2 := K2.cell
  obtain ⟨wf, hwf, Sf⟩ := store6 Z2 (.int .u16 0) (.bool false) (.bool false) (.int .u32 0) (.int .u32 0) (.slice none 0 0)
  have pf := Sf.blk.cell
  have Tf := Sf.bel T2 (by omega)
  rcases h with ⟨rfl, h1⟩ | ⟨rfl, h1, h2⟩
  all_goals go_enter Try.func32, Try.ntmps32
  all_goals go_wp2_with fail
  all_goals exact bodyPost_ret (by simp [results, Try.results32, go_sem, pf]) rfl (frPost_no Tf)
theorem gre_form (p : Pkt) (A1 : Option Addr) (n1 c1 : Nat) (A2 : Option Addr) (n2 c2 : Nat) (w : World) (k2 : Bs w A2 n2 c2 p.dat) (h1 : (p.proto != 47) = false) (h2 : 8 ≤ (n2 : Int)) (HH : eqW p.dat = false) :
    Calls Try.prog 32 #[(.agg #[.int .u8 (p).tos, .int .u16 (p).id, .bool (p).keep, .int .u8 (p).ttl, .int .u8 (p).proto, .int .u32 (p).src, .int .u32 (p).dst, .slice A1 n1 c1, .slice A2 n2 c2])] w (FrPost w zF 4) := by
  have b2 := k2.max
  have hcap := k2.cap
  have hlL : p.dat.take n2 = p.dat := List.take_of_length_le (by rw [k2.len]; exact Nat.le_refl _)
  obtain ⟨i8, hi8, -, hs8, -⟩ := info_parts info_u8
  obtain ⟨b, off, rfl⟩ := k2.some_ (by omega)
  have hcut4 : ∀ W, (Instr.slice 24 (.slice (some ⟨b, off, none⟩) n2 c2) none (some (.int .i64 4)) none).run Try.prog W = .ok (.slice (some ⟨b, off, none⟩) 4 c2) W := fun W => by
    rw [cut_h Try.underlying24 hi8 hs8 (some ⟨b, off, none⟩) n2 c2 .i64 4 (by omega) (by omega) W]; simp [Addr.add]
  have harr : ∀ W, (Instr.arrayAt 61 (.slice (some ⟨b, off, none⟩) 4 c2)).run Try.prog W = .ok (.pointer (some ⟨b, off, none⟩)) W := by
    intro W
    simp [Instr.arrayAt, run_underlying Try.underlying61, Result.andThen]
  obtain ⟨l, hl⟩ : ∃ l, p.dat = l := ⟨_, rfl⟩
  rw [hl] at k2 hlL HH
  obtain ⟨s, hs⟩ : ∃ s, (bits .and .u8 (bt l 0) 16 != 0) = s := ⟨_, rfl⟩
  obtain ⟨a, ha⟩ : ∃ a, (bits .and .u8 (bt l 1) 128 != 0) = a := ⟨_, rfl⟩
  obtain ⟨ev, hev⟩ : ∃ ev, (bt l 0 == b0F s && bt l 1 == b1F a && bt l 2 == 136 && bt l 3 == 11) = ev := ⟨_, rfl⟩
  have heq := eq_first l s a
  rw [hev] at heq
  have hle : eqW l = ev := by unfold eqW sW aW; rw [hs, ha, hev]
  have q0 : 0 < n2 := by omega
  have q0' : (0 : Int) < n2 := by omega
  have q1 : (1 : Int) < n2 := by omega
  have g40 := get16_lo l 4
  have g41 := get16_hi l 4
  obtain ⟨nn, hnn⟩ : ∃ nn, get16 l 4 = nn := ⟨_, rfl⟩
  rw [hnn] at g40 g41
  have HLL := Lib.hid hl
  clear hl
  have HNN := Lib.hid hnn
  have HEV := Lib.hid hev
  have HLE := Lib.hid hle
  clear hev hle hnn
  obtain ⟨k, hk⟩ : ∃ k : Nat, w.heap.size = k := ⟨_, rfl⟩
  obtain ⟨w1, hw1⟩ : ∃ w1, (w.alloc (.cells #[.int .u8 (p).tos, .int .u16 (p).id, .bool (p).keep, .int .u8 (p).ttl, .int .u8 (p).proto, .int .u32 (p).src, .int .u32 (p).dst, .slice A1 n1 c1, .slice (some ⟨b, off, none⟩) n2 c2] 26)).alloc (.cells #[.int .u16 0, .bool false, .bool false, .int .u32 0, .int .u32 0, .slice none 0 0] 30) = w1 := ⟨_, rfl⟩
  have P1 : Blk w1 k #[.int .u8 (p).tos, .int .u16 (p).id, .bool (p).keep, .int .u8 (p).ttl, .int .u8 (p).proto, .int .u32 (p).src, .int .u32 (p).dst, .slice A1 n1 c1, .slice (some ⟨b, off, none⟩) n2 c2] 26 := by rw [← hw1]; exact (blk_new w _ _ k hk).alloc _
  have Z1 : Blk w1 (k + 1) #[.int .u16 0, .bool false, .bool false, .int .u32 0, .int .u32 0, .slice none 0 0] 30 := by rw [← hw1]; exact blk_new _ _ _ (k + 1) (by simp [hk])
  have R1 : Below w.heap.size w w1 := by rw [← hw1]; (repeat (first | with_reducible exact Below.refl _ _ | with_reducible refine below_drew ?_ | with_reducible refine below_drewN ?_ _ | with_reducible refine below_alloc ?_ (Nat.le_refl _) _ | with_reducible refine Below.setCell ?_ (by first | exact Nat.le_refl _ | (simp only []; omega)) _ | with_reducible assumption))
  have pc := P1.cell
  have zc := Z1.cell
  have kl1 := P1.lt
  have zl1 := Z1.lt
  obtain ⟨gb, hgb⟩ : ∃ gb : Nat, w1.heap.size = gb := ⟨_, rfl⟩
  obtain ⟨w2, hw2⟩ : ∃ w2, w1.alloc (.cells #[.slice (some ⟨b, off, none⟩) n2 c2] 24) = w2 := ⟨_, rfl⟩
  have K2 : Blk w2 gb #[.slice (some ⟨b, off, none⟩) n2 c2] 24 := by rw [← hw2]; exact blk_new w1 _ _ gb hgb
  have V2 : Below w1.heap.size w1 w2 := by rw [← hw2]; (repeat (first | with_reducible exact Below.refl _ _ | with_reducible refine below_drew ?_ | with_reducible refine below_drewN ?_ _ | with_reducible refine below_alloc ?_ (Nat.le_refl _) _ | with_reducible refine Below.setCell ?_ (by first | exact Nat.le_refl _ | (simp only []; omega)) _ | with_reducible assumption))
  have T2 := below_then R1 V2
  have P2 := P1.below V2
  have Z2 := Z1.below V2
  have pc2 := P2.cell
  have zc2 := Z2.cell
  have kc2 := K2.cell
  have x2 := k2.below T2
  go_enter Try.func32, Try.ntmps32
  go_wp2_with fail
  refine region_txt 14 (by kernel_rfl) (by kernel_rfl) ?_; (iterate 14 (first | (apply ObsK.skip (by rfl)) | (apply ObsK.v (by rfl); (intro wo hT; (repeat (first | (intro v hv; (fail)) | (intro _ _ k; try have hcv := cv k))); (have kc := (K2.below hT).cell; have bo := x2.below hT; have c0 := bo.at_ (j := 0) (by omega); rw [Nat.add_zero] at c0; have c1 := bo.at_ (j := 1) (by omega); have hsz : w2.heap.size ≤ wo.heap.size := hT.size); refine Goes.mk ?_; go_simp; first | exact goes_v | exact goes_b (by assumption) | exact goes_new hsz | (refine goes_enter ?_; first | (go_at_call 54; go_loud ((with_reducible refine (get16_any (some ⟨b, off, none⟩) n2 c2 l 6 wo bo).mono ?_); rintro e w5 ⟨rfl, hD5⟩; exact ret_v hD5.bel))))) | (apply ObsK.b (by rfl); (intro wo hT; (repeat (first | (intro v hv; (fail)) | (intro _ _ k; try have hcv := cv k))); (have kc := (K2.below hT).cell; have bo := x2.below hT; have c0 := bo.at_ (j := 0) (by omega); rw [Nat.add_zero] at c0; have c1 := bo.at_ (j := 1) (by omega); have hsz : w2.heap.size ≤ wo.heap.size := hT.size); refine Goes.mk ?_; go_simp; first | exact goes_v | exact goes_b (by assumption) | exact goes_new hsz | (refine goes_enter ?_; first | (go_at_call 54; go_loud ((with_reducible refine (get16_any (some ⟨b, off, none⟩) n2 c2 l 6 wo bo).mono ?_); rintro e w5 ⟨rfl, hD5⟩; exact ret_v hD5.bel))))) | (apply ObsK.p (q := isNew w2.heap.size _ _) (by rfl) st_isNew; (intro wo hT; (repeat (first | (intro v hv; (fail)) | (intro _ _ k; try have hcv := cv k))); (have kc := (K2.below hT).cell; have bo := x2.below hT; have c0 := bo.at_ (j := 0) (by omega); rw [Nat.add_zero] at c0; have c1 := bo.at_ (j := 1) (by omega); have hsz : w2.heap.size ≤ wo.heap.size := hT.size); refine Goes.mk ?_; go_simp; first | exact goes_v | exact goes_b (by assumption) | exact goes_new hsz | (refine goes_enter ?_; first | (go_at_call 54; go_loud ((with_reducible refine (get16_any (some ⟨b, off, none⟩) n2 c2 l 6 wo bo).mono ?_); rintro e w5 ⟨rfl, hD5⟩; exact ret_v hD5.bel))))))); refine ObsK.nil ?_; intro wz hBz; simp only [finOn, List.drop_succ_cons, List.drop_zero, List.drop_nil]
  rintro vp ⟨gf, rfl, gfB, G⟩
  go_simp
  obtain ⟨w4, hw4, S4⟩ := store6 G (.int .u16 (get16 l 6)) (.bool s) (.bool a) (.int .u32 0) (.int .u32 0) (.slice none 0 0)
  have gc0 := G.cell
  have zl2 := Z2.lt
  have kl2 := K2.lt
  have kk : w.heap.size ≤ w2.heap.size := T2.size
  have F4 := S4.blk
  have Z4 := S4.other (by omega) (Z2.below hBz)
  have K4 := S4.other (by omega) (K2.below hBz)
  have T4 := S4.bel (below_then T2 hBz) (by omega)
  have x4 := k2.below T4
  go_wp2_with fail
  have hgbk : k + 1 < gb := by omega
  clear hw4 S4 gc0 G hBz pc zc pc2 zc2 kc2 hw1 hw2 hgb P2 P1
  refine region_txt 10 (by kernel_rfl) (by kernel_rfl) ?_; (iterate 10 (first | (apply ObsK.skip (by rfl)) | (apply ObsK.v (by rfl); (intro wo hT; (repeat (first | (intro _ _ k; try have hcv := cv k))); (have kc := (K4.below hT).cell; have fc := (F4.below hT).cell; have bo := x4.below hT; have c0 := bo.at_ (j := 0) (by omega); rw [Nat.add_zero] at c0; have c1 := bo.at_ (j := 1) (by omega); have c2' := bo.at_ (j := 2) (by omega); have c3 := bo.at_ (j := 3) (by omega)); refine Goes.mk ?_; go_simp; first | exact goes_v | exact goes_b (by assumption) | (refine goes_enter ?_; first | (go_at_call 45; go_loud ((with_reducible refine (begin_any s a wo).mono ?_); rintro e w5 ⟨rfl, hB5⟩; exact ret_v hB5))))) | (apply ObsK.b (by rfl); (intro wo hT; (repeat (first | (intro _ _ k; try have hcv := cv k))); (have kc := (K4.below hT).cell; have fc := (F4.below hT).cell; have bo := x4.below hT; have c0 := bo.at_ (j := 0) (by omega); rw [Nat.add_zero] at c0; have c1 := bo.at_ (j := 1) (by omega); have c2' := bo.at_ (j := 2) (by omega); have c3 := bo.at_ (j := 3) (by omega)); refine Goes.mk ?_; go_simp; first | exact goes_v | exact goes_b (by assumption) | (refine goes_enter ?_; first | (go_at_call 45; go_loud ((with_reducible refine (begin_any s a wo).mono ?_); rintro e w5 ⟨rfl, hB5⟩; exact ret_v hB5))))))); refine ObsK.nil ?_; intro wz hBz; simp only [finOn, List.drop_succ_cons, List.drop_zero, List.drop_nil]
  go_simp
  have F5 := F4.below hBz
  have Z5 := Z4.below hBz
  have K5 := K4.below hBz
  have T5 := below_then T4 hBz
  have x5 := k2.below T5
  have zc5 := Z5.cell
  have sz5 := hBz.size
  have zl4 := Z4.lt
  generalize wz = w5 at *
  clear hBz heq harr hcut4
  have hevf : ev = false := by rw [← HLE.out]; exact HH
  subst hevf
  go_wp2_with fail
  obtain ⟨wf, hwf, Sf⟩ := store6 Z5 (.int .u16 0) (.bool false) (.bool false) (.int .u32 0) (.int .u32 0) (.slice none 0 0)
  rw [hwf]
  have pf := Sf.blk.cell
  exact bodyPost_ret (by simp [results, Try.results32, go_sem, pf]) rfl (frPost_no (Sf.bel T5 (by omega)))
theorem gre_yes (p : Pkt) (A1 : Option Addr) (n1 c1 : Nat) (A2 : Option Addr) (n2 c2 : Nat) (w : World) (k2 : Bs w A2 n2 c2 p.dat) (h1 : (p.proto != 47) = false) (h2 : 8 ≤ (n2 : Int)) (HH : eqW p.dat = true) :
    Calls Try.prog 32 #[(.agg #[.int .u8 (p).tos, .int .u16 (p).id, .bool (p).keep, .int .u8 (p).ttl, .int .u8 (p).proto, .int .u32 (p).src, .int .u32 (p).dst, .slice A1 n1 c1, .slice A2 n2 c2])] w (FrPost w (geF p) (geE p)) := by
  have b2 := k2.max
  have hcap := k2.cap
  have hlL : p.dat.take n2 = p.dat := List.take_of_length_le (by rw [k2.len]; exact Nat.le_refl _)
  obtain ⟨i8, hi8, -, hs8, -⟩ := info_parts info_u8
  obtain ⟨b, off, rfl⟩ := k2.some_ (by omega)
  have hcut4 : ∀ W, (Instr.slice 24 (.slice (some ⟨b, off, none⟩) n2 c2) none (some (.int .i64 4)) none).run Try.prog W = .ok (.slice (some ⟨b, off, none⟩) 4 c2) W := fun W => by
    rw [cut_h Try.underlying24 hi8 hs8 (some ⟨b, off, none⟩) n2 c2 .i64 4 (by omega) (by omega) W]; simp [Addr.add]
  have harr : ∀ W, (Instr.arrayAt 61 (.slice (some ⟨b, off, none⟩) 4 c2)).run Try.prog W = .ok (.pointer (some ⟨b, off, none⟩)) W := by
    intro W
    simp [Instr.arrayAt, run_underlying Try.underlying61, Result.andThen]
  obtain ⟨l, hl⟩ : ∃ l, p.dat = l := ⟨_, rfl⟩
  rw [hl] at k2 hlL HH
  obtain ⟨s, hs⟩ : ∃ s, (bits .and .u8 (bt l 0) 16 != 0) = s := ⟨_, rfl⟩
  obtain ⟨a, ha⟩ : ∃ a, (bits .and .u8 (bt l 1) 128 != 0) = a := ⟨_, rfl⟩
  obtain ⟨ev, hev⟩ : ∃ ev, (bt l 0 == b0F s && bt l 1 == b1F a && bt l 2 == 136 && bt l 3 == 11) = ev := ⟨_, rfl⟩
  have heq := eq_first l s a
  rw [hev] at heq
  have hle : eqW l = ev := by unfold eqW sW aW; rw [hs, ha, hev]
  have q0 : 0 < n2 := by omega
  have q0' : (0 : Int) < n2 := by omega
  have q1 : (1 : Int) < n2 := by omega
  have g40 := get16_lo l 4
  have g41 := get16_hi l 4
  obtain ⟨nn, hnn⟩ : ∃ nn, get16 l 4 = nn := ⟨_, rfl⟩
  rw [hnn] at g40 g41
  have HLL := Lib.hid hl
  clear hl
  have HNN := Lib.hid hnn
  have HEV := Lib.hid hev
  have HLE := Lib.hid hle
  clear hev hle hnn
  obtain ⟨k, hk⟩ : ∃ k : Nat, w.heap.size = k := ⟨_, rfl⟩
  obtain ⟨w1, hw1⟩ : ∃ w1, (w.alloc (.cells #[.int .u8 (p).tos, .int .u16 (p).id, .bool (p).keep, .int .u8 (p).ttl, .int .u8 (p).proto, .int .u32 (p).src, .int .u32 (p).dst, .slice A1 n1 c1, .slice (some ⟨b, off, none⟩) n2 c2] 26)).alloc (.cells #[.int .u16 0, .bool false, .bool false, .int .u32 0, .int .u32 0, .slice none 0 0] 30) = w1 := ⟨_, rfl⟩
  have P1 : Blk w1 k #[.int .u8 (p).tos, .int .u16 (p).id, .bool (p).keep, .int .u8 (p).ttl, .int .u8 (p).proto, .int .u32 (p).src, .int .u32 (p).dst, .slice A1 n1 c1, .slice (some ⟨b, off, none⟩) n2 c2] 26 := by rw [← hw1]; exact (blk_new w _ _ k hk).alloc _
  have Z1 : Blk w1 (k + 1) #[.int .u16 0, .bool false, .bool false, .int .u32 0, .int .u32 0, .slice none 0 0] 30 := by rw [← hw1]; exact blk_new _ _ _ (k + 1) (by simp [hk])
  have R1 : Below w.heap.size w w1 := by rw [← hw1]; (repeat (first | with_reducible exact Below.refl _ _ | with_reducible refine below_drew ?_ | with_reducible refine below_drewN ?_ _ | with_reducible refine below_alloc ?_ (Nat.le_refl _) _ | with_reducible refine Below.setCell ?_ (by first | exact Nat.le_refl _ | (simp only []; omega)) _ | with_reducible assumption))
  have pc := P1.cell
  have zc := Z1.cell
  have kl1 := P1.lt
  have zl1 := Z1.lt
  obtain ⟨gb, hgb⟩ : ∃ gb : Nat, w1.heap.size = gb := ⟨_, rfl⟩
  obtain ⟨w2, hw2⟩ : ∃ w2, w1.alloc (.cells #[.slice (some ⟨b, off, none⟩) n2 c2] 24) = w2 := ⟨_, rfl⟩
  have K2 : Blk w2 gb #[.slice (some ⟨b, off, none⟩) n2 c2] 24 := by rw [← hw2]; exact blk_new w1 _ _ gb hgb
  have V2 : Below w1.heap.size w1 w2 := by rw [← hw2]; (repeat (first | with_reducible exact Below.refl _ _ | with_reducible refine below_drew ?_ | with_reducible refine below_drewN ?_ _ | with_reducible refine below_alloc ?_ (Nat.le_refl _) _ | with_reducible refine Below.setCell ?_ (by first | exact Nat.le_refl _ | (simp only []; omega)) _ | with_reducible assumption))
  have T2 := below_then R1 V2
  have P2 := P1.below V2
  have Z2 := Z1.below V2
  have pc2 := P2.cell
  have zc2 := Z2.cell
  have kc2 := K2.cell
  have x2 := k2.below T2
  go_enter Try.func32, Try.ntmps32
  go_wp2_with fail
  refine region_txt 14 (by kernel_rfl) (by kernel_rfl) ?_; (iterate 14 (first | (apply ObsK.skip (by rfl)) | (apply ObsK.v (by rfl); (intro wo hT; (repeat (first | (intro v hv; (fail)) | (intro _ _ k; try have hcv := cv k))); (have kc := (K2.below hT).cell; have bo := x2.below hT; have c0 := bo.at_ (j := 0) (by omega); rw [Nat.add_zero] at c0; have c1 := bo.at_ (j := 1) (by omega); have hsz : w2.heap.size ≤ wo.heap.size := hT.size); refine Goes.mk ?_; go_simp; first | exact goes_v | exact goes_b (by assumption) | exact goes_new hsz | (refine goes_enter ?_; first | (go_at_call 54; go_loud ((with_reducible refine (get16_any (some ⟨b, off, none⟩) n2 c2 l 6 wo bo).mono ?_); rintro e w5 ⟨rfl, hD5⟩; exact ret_v hD5.bel))))) | (apply ObsK.b (by rfl); (intro wo hT; (repeat (first | (intro v hv; (fail)) | (intro _ _ k; try have hcv := cv k))); (have kc := (K2.below hT).cell; have bo := x2.below hT; have c0 := bo.at_ (j := 0) (by omega); rw [Nat.add_zero] at c0; have c1 := bo.at_ (j := 1) (by omega); have hsz : w2.heap.size ≤ wo.heap.size := hT.size); refine Goes.mk ?_; go_simp; first | exact goes_v | exact goes_b (by assumption) | exact goes_new hsz | (refine goes_enter ?_; first | (go_at_call 54; go_loud ((with_reducible refine (get16_any (some ⟨b, off, none⟩) n2 c2 l 6 wo bo).mono ?_); rintro e w5 ⟨rfl, hD5⟩; exact ret_v hD5.bel))))) | (apply ObsK.p (q := isNew w2.heap.size _ _) (by rfl) st_isNew; (intro wo hT; (repeat (first | (intro v hv; (fail)) | (intro _ _ k; try have hcv := cv k))); (have kc := (K2.below hT).cell; have bo := x2.below hT; have c0 := bo.at_ (j := 0) (by omega); rw [Nat.add_zero] at c0; have c1 := bo.at_ (j := 1) (by omega); have hsz : w2.heap.size ≤ wo.heap.size := hT.size); refine Goes.mk ?_; go_simp; first | exact goes_v | exact goes_b (by assumption) | exact goes_new hsz | (refine goes_enter ?_; first | (go_at_call 54; go_loud ((with_reducible refine (get16_any (some ⟨b, off, none⟩) n2 c2 l 6 wo bo).mono ?_); rintro e w5 ⟨rfl, hD5⟩; exact ret_v hD5.bel))))))); refine ObsK.nil ?_; intro wz hBz; simp only [finOn, List.drop_succ_cons, List.drop_zero, List.drop_nil]
  rintro vp ⟨gf, rfl, gfB, G⟩
  go_simp
  obtain ⟨w4, hw4, S4⟩ := store6 G (.int .u16 (get16 l 6)) (.bool s) (.bool a) (.int .u32 0) (.int .u32 0) (.slice none 0 0)
  have gc0 := G.cell
  have zl2 := Z2.lt
  have kl2 := K2.lt
  have kk : w.heap.size ≤ w2.heap.size := T2.size
  have F4 := S4.blk
  have Z4 := S4.other (by omega) (Z2.below hBz)
  have K4 := S4.other (by omega) (K2.below hBz)
  have T4 := S4.bel (below_then T2 hBz) (by omega)
  have x4 := k2.below T4
  go_wp2_with fail
  have hgbk : k + 1 < gb := by omega
  clear hw4 S4 gc0 G hBz pc zc pc2 zc2 kc2 hw1 hw2 hgb P2 P1
  refine region_txt 10 (by kernel_rfl) (by kernel_rfl) ?_; (iterate 10 (first | (apply ObsK.skip (by rfl)) | (apply ObsK.v (by rfl); (intro wo hT; (repeat (first | (intro _ _ k; try have hcv := cv k))); (have kc := (K4.below hT).cell; have fc := (F4.below hT).cell; have bo := x4.below hT; have c0 := bo.at_ (j := 0) (by omega); rw [Nat.add_zero] at c0; have c1 := bo.at_ (j := 1) (by omega); have c2' := bo.at_ (j := 2) (by omega); have c3 := bo.at_ (j := 3) (by omega)); refine Goes.mk ?_; go_simp; first | exact goes_v | exact goes_b (by assumption) | (refine goes_enter ?_; first | (go_at_call 45; go_loud ((with_reducible refine (begin_any s a wo).mono ?_); rintro e w5 ⟨rfl, hB5⟩; exact ret_v hB5))))) | (apply ObsK.b (by rfl); (intro wo hT; (repeat (first | (intro _ _ k; try have hcv := cv k))); (have kc := (K4.below hT).cell; have fc := (F4.below hT).cell; have bo := x4.below hT; have c0 := bo.at_ (j := 0) (by omega); rw [Nat.add_zero] at c0; have c1 := bo.at_ (j := 1) (by omega); have c2' := bo.at_ (j := 2) (by omega); have c3 := bo.at_ (j := 3) (by omega)); refine Goes.mk ?_; go_simp; first | exact goes_v | exact goes_b (by assumption) | (refine goes_enter ?_; first | (go_at_call 45; go_loud ((with_reducible refine (begin_any s a wo).mono ?_); rintro e w5 ⟨rfl, hB5⟩; exact ret_v hB5))))))); refine ObsK.nil ?_; intro wz hBz; simp only [finOn, List.drop_succ_cons, List.drop_zero, List.drop_nil]
  go_simp
  have F5 := F4.below hBz
  have Z5 := Z4.below hBz
  have K5 := K4.below hBz
  have T5 := below_then T4 hBz
  have x5 := k2.below T5
  have zc5 := Z5.cell
  have sz5 := hBz.size
  have zl4 := Z4.lt
  generalize wz = w5 at *
  clear hBz heq harr hcut4
  have hevf : ev = true := by rw [← HLE.out]; exact HH
  subst hevf
  obtain ⟨a1, ha1⟩ : ∃ a1 : Int, (if s = true then (8 : Int) + 4 else 8) = a1 := ⟨_, rfl⟩
  have hHd : (if a = true then a1 + 4 else a1) = (hdG l : Int) := by
    have hb := eqW_begB l
    have hbb : begB l = true := by rw [← hb.1]; exact HH
    have hsa := hb.2 hbb
    have es : s = sB l := by rw [← hsa.1]; exact hs.symm
    have ea : a = aB l := by rw [← hsa.2]; exact ha.symm
    unfold hdG
    rw [← ha1, es, ea]
    cases sB l <;> cases aB l <;> rfl
  obtain ⟨H, hH⟩ : ∃ H : Nat, hdG l = H := ⟨_, rfl⟩
  have HRd : Hid (rdF l = ⟨get16 l 6, s, a, (if s = true then get32 l 8 else 0), (if a = true then get32 l a1 else 0), l.drop H⟩) := by
    have hb := eqW_begB l
    have hbb : begB l = true := by rw [← hb.1]; exact HH
    have hsa := hb.2 hbb
    have es : s = sB l := by rw [← hsa.1]; exact hs.symm
    have ea : a = aB l := by rw [← hsa.2]; exact ha.symm
    unfold Hid rdF
    rw [hH, ← ha1, es, ea]
    cases sB l <;> cases aB l <;> rfl
  have HE3 : Hid ((n2 : Int) < (H : Int) + nn → geF p = zF ∧ geE p = 3) := fun h => by
    have e : geE p = 3 := by
      unfold geE
      rw [if_neg (by simpa using h1), HLL.out, k2.len, if_neg (by omega), if_neg (by rw [← (eqW_begB l).1, HH]; decide), hH, HNN.out, if_pos h]
    exact ⟨by unfold geF; rw [e, if_neg (by decide)], e⟩
  have HE4 : Hid ((H : Int) + nn < (n2 : Int) → geF p = zF ∧ geE p = 4) := fun h => by
    have e : geE p = 4 := by
      unfold geE
      rw [if_neg (by simpa using h1), HLL.out, k2.len, if_neg (by omega), if_neg (by rw [← (eqW_begB l).1, HH]; decide), hH, HNN.out, if_neg (by omega), if_pos h]
    exact ⟨by unfold geF; rw [e, if_neg (by decide)], e⟩
  have HE0 : Hid ((H : Int) + nn = (n2 : Int) → geF p = rdF l ∧ geE p = 0) := fun h => by
    have e : geE p = 0 := by
      unfold geE
      rw [if_neg (by simpa using h1), HLL.out, k2.len, if_neg (by omega), if_neg (by rw [← (eqW_begB l).1, HH]; decide), hH, HNN.out, if_neg (by omega), if_neg (by omega)]
    exact ⟨by unfold geF; rw [e, if_pos rfl, HLL.out], e⟩
  have a10 : 8 ≤ a1 ∧ a1 ≤ 12 := by rw [← ha1]; split <;> omega
  have a20 : 8 ≤ (H : Int) ∧ (H : Int) ≤ 16 := by rw [← hH, ← hHd]; split <;> omega
  obtain ⟨a10, a11⟩ := a10
  obtain ⟨a20, a21⟩ := a20
  rw [hH] at hHd
  obtain ⟨sq, hsq⟩ : ∃ sq : Int, (if s = true then get32 l 8 else 0) = sq := ⟨_, rfl⟩
  obtain ⟨ak, hak⟩ : ∃ ak : Int, (if a = true then get32 l a1 else 0) = ak := ⟨_, rfl⟩
  have N1 : ∀ W, Blk W gb #[.slice (some ⟨b, off, none⟩) n2 c2] 24 → ∀ ga, Blk W ga #[.int .i64 8] 3 → gb ≠ ga → Bs W (some ⟨b, off, none⟩) n2 c2 l → Calls Try.prog 55 #[.bool s, .pointer (some ⟨gb, 0, none⟩), .pointer (some ⟨ga, 0, none⟩)] W fun e w' => e = .returned (.int .u32 sq) ∧ W.grownBy w' (some ga) ∧ Blk w' ga #[.int .i64 a1] 3 := fun W h1 ga h2 h3 h4 => by
    have := next_any s gb ga (some ⟨b, off, none⟩) n2 c2 l 8 (by omega) (by omega) W h1 h2 h3 h4
    rw [hsq, ha1] at this
    exact this
  have N2 : ∀ W, Blk W gb #[.slice (some ⟨b, off, none⟩) n2 c2] 24 → ∀ ga, Blk W ga #[.int .i64 a1] 3 → gb ≠ ga → Bs W (some ⟨b, off, none⟩) n2 c2 l → Calls Try.prog 55 #[.bool a, .pointer (some ⟨gb, 0, none⟩), .pointer (some ⟨ga, 0, none⟩)] W fun e w' => e = .returned (.int .u32 ak) ∧ W.grownBy w' (some ga) ∧ Blk w' ga #[.int .i64 (H : Int)] 3 := fun W h1 ga h2 h3 h4 => by
    have := next_any a gb ga (some ⟨b, off, none⟩) n2 c2 l a1 (by omega) (by omega) W h1 h2 h3 h4
    rw [hak, hHd] at this
    exact this
  have HA1 := Lib.hid ha1
  have HRD : Hid (rdF l = ⟨get16 l 6, s, a, sq, ak, l.drop H⟩) := by unfold Hid; rw [HRd.out, hsq, hak]
  have hHn : get16 l 4 = nn := HNN.out
  clear ha1 hsq hak hs ha hH hHd HRd HH HNN HLE
  have hmf : ∀ (fn : Fn) (first cap : Array Value) (w : World), (Instr.makeFunc fn first cap).run Try.prog w = .ok (.func fn first cap) w := fun _ _ _ _ => rfl
  obtain ⟨ga, hga⟩ : ∃ ga : Nat, w5.heap.size = ga := ⟨_, rfl⟩
  obtain ⟨w7, hw7⟩ : ∃ w7, w5.alloc (.cells #[.int .i64 8] 3) = w7 := ⟨_, rfl⟩
  have V7 : Below w5.heap.size w5 w7 := by rw [← hw7]; (repeat (first | with_reducible exact Below.refl _ _ | with_reducible refine below_drew ?_ | with_reducible refine below_drewN ?_ _ | with_reducible refine below_alloc ?_ (Nat.le_refl _) _ | with_reducible refine Below.setCell ?_ (by first | exact Nat.le_refl _ | (simp only []; omega)) _ | with_reducible assumption))
  have J7 : Blk w7 ga #[.int .i64 8] 3 := by rw [← hw7]; exact blk_new _ _ _ ga hga
  have fl5 := F5.lt
  have kl5 := K5.lt
  have zl5 := Z5.lt
  have F7 := F5.below V7
  have K7 := K5.below V7
  have Z7 := Z5.below V7
  have T7 := below_then T5 V7
  have kk5 : w.heap.size ≤ ga := by rw [← hga]; exact T5.size
  have hne : gb ≠ ga := by omega
  have hng : gf ≠ ga := by omega
  have hnz : k + 1 ≠ ga := by omega
  have HGA := Lib.hid hga
  have HV := Lib.hid V7.size
  go_wp2_with fail
  clear hga zc5 hw7
  refine regionX 9 [3, 7] ga (fun c W => match c with | 0 => Blk W ga #[.int .i64 8] 3 | 1 => Blk W ga #[.int .i64 a1] 3 | _ + 2 => Blk W ga #[.int .i64 (H : Int)] 3) (by kernel_rfl) (by kernel_rfl) (by kernel_rfl) J7 (fun c W W' hj hb => by cases c with | zero => exact Blk.below hj hb | succ n => cases n <;> exact Blk.below hj hb) ?_; (iterate 9 (first | (apply ObsX.skip (by rfl) (by rfl)) | (apply ObsX.v (by rfl) (by rfl); (intro wo hE; (repeat (first | (intro _ _ k; try have hcv := cv k))); (have fco := (F7.ext hE hng).cell; have Ko := K7.ext hE hne; have xo := k2.ext T7 kk5 hE; (try have hj0 : Blk wo ga #[.int .i64 8] 3 := hj); (try have hj1 : Blk wo ga #[.int .i64 a1] 3 := hj)); refine Goes.mk ?_; go_simp; first | exact goes_v | (refine goes_enter ?_; first | (go_at_call 55; go_loud ((with_reducible refine (N1 wo Ko ga hj0 hne xo).mono ?_); rintro e w9 ⟨rfl, hE9, hJ9⟩; exact ⟨_, rfl, rfl, hE9, hJ9⟩)) | (go_at_call 55; go_loud ((with_reducible refine (N2 wo Ko ga hj1 hne xo).mono ?_); rintro e w9 ⟨rfl, hE9, hJ9⟩; exact ⟨_, rfl, rfl, hE9, hJ9⟩))))) | (apply ObsX.ev (by rfl) (by rfl); (intro wo hE hj; (repeat (first | (intro _ _ k; try have hcv := cv k))); (have fco := (F7.ext hE hng).cell; have Ko := K7.ext hE hne; have xo := k2.ext T7 kk5 hE; (try have hj0 : Blk wo ga #[.int .i64 8] 3 := hj); (try have hj1 : Blk wo ga #[.int .i64 a1] 3 := hj)); refine GoesX.mk ?_; go_simp; first | exact goes_v | (refine goes_enter ?_; first | (go_at_call 55; go_loud ((with_reducible refine (N1 wo Ko ga hj0 hne xo).mono ?_); rintro e w9 ⟨rfl, hE9, hJ9⟩; exact ⟨_, rfl, rfl, hE9, hJ9⟩)) | (go_at_call 55; go_loud ((with_reducible refine (N2 wo Ko ga hj1 hne xo).mono ?_); rintro e w9 ⟨rfl, hE9, hJ9⟩; exact ⟨_, rfl, rfl, hE9, hJ9⟩))))))); refine ObsX.nil ?_; intro wz hEz hJz; simp only [finOn, List.drop_succ_cons, List.drop_zero, List.drop_nil]
  go_simp
  have J8 : Blk wz ga #[.int .i64 (H : Int)] 3 := hJz
  have F8 := F7.ext hEz hng
  have K8 := K7.ext hEz hne
  have Z8 := Z7.ext hEz hnz
  have T8 : Below w.heap.size w wz := T7.grown hEz T7.size (fun k e => by injection e with e; omega)
  clear N1 N2
  have fc8 := F8.cell
  have fl8 := F8.lt
  have kl8 := K8.lt
  have zl8 := Z8.lt
  have jl8 := J8.lt
  obtain ⟨w9, hw9, S9⟩ : ∃ wf, (wz.setCell ⟨gf, 3, none⟩ (.int .u32 sq)).setCell ⟨gf, 4, none⟩ (.int .u32 ak) = wf ∧ Sto wz gf wf #[.int .u16 (get16 l 6), .bool s, .bool a, .int .u32 sq, .int .u32 ak, .slice none 0 0] 30 := ⟨_, rfl, by
    have := ((Sto.nil F8).set 3 (.int .u32 sq)).set 4 (.int .u32 ak)
    simp only [List.setIfInBounds_toArray, List.set_cons_zero, List.set_cons_succ] at this
    exact this⟩
  have hgf : w.heap.size ≤ gf := Nat.le_trans kk gfB
  have F9 := S9.blk
  have J9 := S9.other (Ne.symm hng) J8
  have K9 := S9.other (by omega) K8
  have Z9 := S9.other (by omega) Z8
  have T9 := S9.bel T8 hgf
  have x9 := k2.below T9
  go_wp2_with fail
  clear hw9 S9 fc8 F8 J8 K8 Z8 T8 hJz hEz
  refine region_txt 5 (by kernel_rfl) (by kernel_rfl) ?_; (iterate 5 (first | (apply ObsK.skip (by rfl)) | (apply ObsK.v (by rfl); (intro wo hT; (repeat (first | (intro _ _ k; try have hcv := cv k))); (have jco := (J9.below hT).cell; have kco := (K9.below hT).cell; have bo := x9.below hT); refine Goes.mk ?_; go_simp; first | exact goes_v | exact goes_b (by assumption) | (refine goes_enter ?_; first | (go_at_call 54; go_loud ((with_reducible refine (get16_any (some ⟨b, off, none⟩) n2 c2 l 4 wo bo).mono ?_); rintro e w10 ⟨rfl, hD10⟩; (try rw [hHn]); exact ret_v hD10.bel))))) | (apply ObsK.b (by rfl); (intro wo hT; (repeat (first | (intro _ _ k; try have hcv := cv k))); (have jco := (J9.below hT).cell; have kco := (K9.below hT).cell; have bo := x9.below hT); refine Goes.mk ?_; go_simp; first | exact goes_v | exact goes_b (by assumption) | (refine goes_enter ?_; first | (go_at_call 54; go_loud ((with_reducible refine (get16_any (some ⟨b, off, none⟩) n2 c2 l 4 wo bo).mono ?_); rintro e w10 ⟨rfl, hD10⟩; (try rw [hHn]); exact ret_v hD10.bel))))))); refine ObsK.nil ?_; intro wz hBz; simp only [finOn, List.drop_succ_cons, List.drop_zero, List.drop_nil]
  go_simp
  have F10 := F9.below hBz
  have J10 := J9.below hBz
  have K10 := K9.below hBz
  have Z10 := Z9.below hBz
  have T10 := below_then T9 hBz
  have x10 := k2.below T10
  have fc10 := F10.cell
  have jc10 := J10.cell
  have kc10 := K10.cell
  have zc10 := Z10.cell
  have hf10 := F10.lt
  have zl10 := Z10.lt
  by_cases t1 : (n2 : Int) < (H : Int) + nn
  · obtain ⟨eF, eE⟩ := HE3.out t1
    have GF := Lib.hid eF
    have GE := Lib.hid eE
    clear eF eE
    go_wp2_with fail
    obtain ⟨wf, hwf, Sf⟩ := store6 Z10 (.int .u16 0) (.bool false) (.bool false) (.int .u32 0) (.int .u32 0) (.slice none 0 0)
    rw [hwf, GF.out, GE.out]
    have pf := Sf.blk.cell
    exact bodyPost_ret (by simp [results, Try.results32, go_sem, pf]) rfl (frPost_no (Sf.bel T10 (by omega)))
  · by_cases t2 : (H : Int) + nn < (n2 : Int)
    · obtain ⟨eF, eE⟩ := HE4.out t2
      have GF := Lib.hid eF
      have GE := Lib.hid eE
      clear eF eE
      go_wp2_with fail
      obtain ⟨wf, hwf, Sf⟩ := store6 Z10 (.int .u16 0) (.bool false) (.bool false) (.int .u32 0) (.int .u32 0) (.slice none 0 0)
      rw [hwf, GF.out, GE.out]
      have pf := Sf.blk.cell
      exact bodyPost_ret (by simp [results, Try.results32, go_sem, pf]) rfl (frPost_no (Sf.bel T10 (by omega)))
    · obtain ⟨eF, eE⟩ := HE0.out (by omega)
      rw [HRD.out] at eF
      have GF := Lib.hid eF
      have GE := Lib.hid eE
      clear eF eE HE0 HE3 HE4 HRD
      have hH : H ≤ n2 := by omega
      have hcut : ∀ W, (Instr.slice 24 (.slice (some ⟨b, off, none⟩) n2 c2) (some (.int .i64 (H : Int))) none none).run Try.prog W = _ := fun W => cut_l Try.underlying24 hi8 hs8 (some ⟨b, off, none⟩) n2 c2 .i64 H (by omega) (by omega) W
      obtain ⟨A', n', c', eA, en, ec, hbD⟩ := x10.cutE (lo := H) (hi := n2) hH (Nat.le_refl _)
      simp only [Int.toNat_natCast, eA, en, ec] at hcut
      rw [hlL] at hbD
      clear eA en ec hlL
      go_wp2_with (go_at_call 51; go_loud ((with_reducible refine (clone_any A' n' c' _ _ hbD).mono ?_); rintro e w11 ⟨A9, c9, rfl, ho9, hB9⟩; have F11 := F10.below hB9; have Z11 := Z10.below hB9; have fc11 := F11.cell; (obtain ⟨w12, hw12, S12⟩ := store1 F11 5 (.slice A9 n' c9)); simp only [List.setIfInBounds_toArray, List.set_cons_zero, List.set_cons_succ] at S12; have F12 := S12.blk.cell; have Z12 := S12.other (by omega) Z11; have zc12 := Z12.cell; have zl12 := Z12.lt; have T12 := S12.bel (below_then T10 hB9) hgf; have O12 := S12.own ho9 (fun a e => by have := ho9.ge a e; omega)))
      obtain ⟨wf, hwf, Sf⟩ := store6 Z12 (.int .u16 (get16 l 6)) (.bool s) (.bool a) (.int .u32 sq) (.int .u32 ak) (.slice A9 n' c9)
      rw [hwf, GF.out, GE.out]
      have pf := Sf.blk.cell
      have Of := Sf.own O12 (fun a e => by have := O12.ge a e; omega)
      have s10 := T10.size
      exact bodyPost_ret (v := .tuple #[.agg #[.int .u16 (get16 l 6), .bool s, .bool a, .int .u32 sq, .int .u32 ak, .slice A9 n' c9], .int .i64 0]) (by simp [results, Try.results32, go_sem, pf]) rfl ⟨A9, n', c9, rfl, Of.mono s10, Sf.bel T12 (by omega)⟩
theorem gre_any (p : Pkt) (A1 : Option Addr) (n1 c1 : Nat) (A2 : Option Addr) (n2 c2 : Nat) (w : World) (k2 : Bs w A2 n2 c2 p.dat) :
    Calls Try.prog 32 #[(.agg #[.int .u8 (p).tos, .int .u16 (p).id, .bool (p).keep, .int .u8 (p).ttl, .int .u8 (p).proto, .int .u32 (p).src, .int .u32 (p).dst, .slice A1 n1 c1, .slice A2 n2 c2])] w (FrPost w (geF p) (geE p)) := by
  have l2 := k2.len
  by_cases h1 : p.proto = 47
  · have h1' : (p.proto != 47) = false := by simp [h1]
    by_cases h2 : 8 ≤ (n2 : Int)
    · cases hq : eqW p.dat with
      | true => exact gre_yes p A1 n1 c1 A2 n2 c2 w k2 h1' h2 hq
      | false =>
        have e : geE p = 4 := by unfold geE; rw [if_neg (by simp [h1]), l2, if_neg (by omega), if_pos (by rw [← (eqW_begB p.dat).1, hq])]
        rw [show geF p = zF from by unfold geF; rw [e, if_neg (by decide)], e]
        exact gre_form p A1 n1 c1 A2 n2 c2 w k2 h1' h2 hq
    · have e : geE p = 3 := by unfold geE; rw [if_neg (by simp [h1]), l2, if_pos (by omega)]
      rw [show geF p = zF from by unfold geF; rw [e, if_neg (by decide)], e]
      exact gre_no p A1 n1 c1 A2 n2 c2 w k2 3 (.inr ⟨rfl, h1', by omega⟩)
  · have e : geE p = 12 := by unfold geE; rw [if_pos h1]
    rw [show geF p = zF from by unfold geF; rw [e, if_neg (by decide)], e]
    exact gre_no p A1 n1 c1 A2 n2 c2 w k2 12 (.inl ⟨rfl, by simpa using h1⟩)
end Go.Proofs.Ytogbncpchmnbdaa

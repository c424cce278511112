/- Parts of the proofs of this seat, laid together. -/
import Derived.BigRegion
import Derived.WalkLawsBesides
import Derived.Defers
import Derived.Recover
import Derived.WideLaws
import Derived.RegionTactic
import Derived.Test.YthgoffbfgdgkpaaGa3
namespace Go.Proofs.Ythgoffbfgdgkpaa
open Go.RowKit
set_option linter.unusedVariables false
set_option linter.unusedSimpArgs false
set_option linter.unusedSimpArgs false
set_option maxHeartbeats 4000000
set_option maxRecDepth 100000

theorem rbegin_any (A : Option Addr) (n c : Nat) (l : List UInt8) (w : World) (hb : Bs w A n c l) :
    Calls Try.prog 58 #[.slice A n c] w fun e w' => e = .returned (.bool (decide (4 ≤ (n : Int)) && begB l)) ∧ w = w' := by
  by_cases h : 4 ≤ (n : Int)
  · have b2 := hb.max
    obtain ⟨b, off, rfl⟩ := hb.some_ (by omega)
    have c0 := hb.at_ (j := 0) (by omega)
    rw [Nat.add_zero] at c0
    have c1 := hb.at_ (j := 1) (by omega)
    have c2' := hb.at_ (j := 2) (by omega)
    have c3 := hb.at_ (j := 3) (by omega)
    have q0 : 0 < n := by omega
    have q0' : (0 : Int) < n := by omega
    have q1 : (1 : Int) < n := by omega
    have q2 : (2 : Int) < n := by omega
    have q3 : (3 : Int) < n := by omega
    go_enter Try.func58, Try.ntmps58
    go_wp2_with fail
    all_goals go_ret
    all_goals refine ⟨?_, rfl⟩
    all_goals simp_all [begB]
  · have b2 := hb.max
    go_enter Try.func58, Try.ntmps58
    go_wp2_with fail
    all_goals go_ret
    all_goals refine ⟨?_, rfl⟩
    all_goals rw [decide_eq_false (show ¬ (4 : Int) ≤ n by omega)]
    all_goals rfl
theorem rgre_no (p : Pkt) (A1 : Option Addr) (n1 c1 : Nat) (A2 : Option Addr) (n2 c2 : Nat) (w : World) (k2 : Bs w A2 n2 c2 p.dat) (E : Int)
    (h : (E = 12 ∧ (p.proto != 47) = true) ∨ (E = 3 ∧ (p.proto != 47) = false ∧ (n2 : Int) < 8) ∨ (E = 4 ∧ (p.proto != 47) = false ∧ 8 ≤ (n2 : Int) ∧ begB p.dat = false)) :
    Calls Try.prog 32 #[(.agg #[.int .u8 (p).tos, .int .u16 (p).id, .bool (p).keep, .int .u8 (p).ttl, .int .u8 (p).proto, .int .u32 (p).src, .int .u32 (p).dst, .slice A1 n1 c1, .slice A2 n2 c2])] w (FrPost w zF E) := by
  have b2 := k2.max
  obtain ⟨k, hk⟩ : ∃ k : Nat, w.heap.size = k := ⟨_, rfl⟩
  obtain ⟨w1, hw1⟩ : ∃ W, ((w.alloc (.cells #[.int .u8 (p).tos, .int .u16 (p).id, .bool (p).keep, .int .u8 (p).ttl, .int .u8 (p).proto, .int .u32 (p).src, .int .u32 (p).dst, .slice A1 n1 c1, .slice A2 n2 c2] 26)).alloc (.cells #[.int .u16 0, .bool false, .bool false, .int .u32 0, .int .u32 0, .slice none 0 0] 52)) = W := ⟨_, rfl⟩
  have P1 : Blk w1 k #[.int .u8 (p).tos, .int .u16 (p).id, .bool (p).keep, .int .u8 (p).ttl, .int .u8 (p).proto, .int .u32 (p).src, .int .u32 (p).dst, .slice A1 n1 c1, .slice A2 n2 c2] 26 := by rw [← hw1]; exact ((blk_new _ _ _ k (by simp [hk])).alloc _)
  have Z1 : Blk w1 (k + 1) #[.int .u16 0, .bool false, .bool false, .int .u32 0, .int .u32 0, .slice none 0 0] 52 := by rw [← hw1]; exact (blk_new _ _ _ (k + 1) (by simp [hk]))
  have R1 : Below w.heap.size w w1 := by rw [← hw1]; (repeat (first | with_reducible exact Below.refl _ _ | with_reducible refine below_drew ?_ | with_reducible refine below_drewN ?_ _ | with_reducible refine below_alloc ?_ (Nat.le_refl _) _ | with_reducible refine Below.setCell ?_ (by first | exact Nat.le_refl _ | (simp only []; omega)) _ | with_reducible assumption))
  have Pc1 := P1.cell
  have Zc1 := Z1.cell
  have Pl1 := P1.lt
  have Zl1 := Z1.lt
  have x1 := (k2).below R1
  obtain ⟨wf, hwf, Sf⟩ := store6 Z1 (.int .u16 0) (.bool false) (.bool false) (.int .u32 0) (.int .u32 0) (.slice none 0 0)
  have pf := Sf.blk.cell
  have Tf := Sf.bel R1 (by omega)
  rcases h with ⟨rfl, h1⟩ | ⟨rfl, h1, h2⟩ | ⟨rfl, h1, h2, h3⟩
  · go_enter Try.func32, Try.ntmps32
    go_wp2_with fail
    exact bodyPost_ret (by simp [results, Try.results32, go_sem, pf]) rfl (frPost_no Tf)
  · go_enter Try.func32, Try.ntmps32
    go_wp2_with fail
    exact bodyPost_ret (by simp [results, Try.results32, go_sem, pf]) rfl (frPost_no Tf)
  · have hb := rbegin_any A2 n2 c2 p.dat w1 x1
    rw [h3, Bool.and_false] at hb
    clear h3
    go_enter Try.func32, Try.ntmps32
    go_wp2_with (go_at_call 58; ((with_reducible refine (hb).mono ?_); rintro e w2 ⟨rfl, rfl⟩))
    exact bodyPost_ret (by simp [results, Try.results32, go_sem, pf]) rfl (frPost_no Tf)
theorem rgre_yes (p : Pkt) (A1 : Option Addr) (n1 c1 : Nat) (A2 : Option Addr) (n2 c2 : Nat) (w : World) (k2 : Bs w A2 n2 c2 p.dat) (h1 : (p.proto != 47) = false) (h2 : 8 ≤ (n2 : Int)) (HH : begB p.dat = true) :
    Calls Try.prog 32 #[(.agg #[.int .u8 (p).tos, .int .u16 (p).id, .bool (p).keep, .int .u8 (p).ttl, .int .u8 (p).proto, .int .u32 (p).src, .int .u32 (p).dst, .slice A1 n1 c1, .slice A2 n2 c2])] w (FrPost w (geF p) (geE p)) := by
  have b2 := k2.max
  have hcap := k2.cap
  have hlL : p.dat.take n2 = p.dat := List.take_of_length_le (by rw [k2.len]; exact Nat.le_refl _)
  obtain ⟨i8, hi8, -, hs8, -⟩ := info_parts info_u8
  obtain ⟨b, off, rfl⟩ := k2.some_ (by omega)
  obtain ⟨l, hl⟩ : ∃ l, p.dat = l := ⟨_, rfl⟩
  rw [hl] at k2 hlL HH
  have HLL := Lib.hid hl
  clear hl
  obtain ⟨s, hs⟩ : ∃ s, (bt l 0 == 48) = s := ⟨_, rfl⟩
  obtain ⟨a, ha⟩ : ∃ a, (bt l 1 == 129) = a := ⟨_, rfl⟩
  have hsB : sB l = s := hs
  have haB : aB l = a := ha
  have q0 : 0 < n2 := by omega
  have q0' : (0 : Int) < n2 := by omega
  have q1 : (1 : Int) < n2 := by omega
  have g40 := get16_lo l 4
  have g41 := get16_hi l 4
  obtain ⟨nn, hnn⟩ : ∃ nn, get16 l 4 = nn := ⟨_, rfl⟩
  rw [hnn] at g40 g41
  obtain ⟨H, hH⟩ : ∃ H : Nat, hdG l = H := ⟨_, rfl⟩
  have hHd : H = 8 + (if s then 4 else 0) + (if a then 4 else 0) := by rw [← hH]; unfold hdG; rw [hsB, haB]
  have HRd : Hid (rdF l = ⟨get16 l 6, s, a, (if s = true then get32 l 8 else 0), (if a = true then get32 l (if s = true then 12 else 8) else 0), l.drop H⟩) := by
    unfold Hid rdF
    rw [hH, hsB, haB]
  have hb := rbegin_any (some ⟨b, off, none⟩) n2 c2 l
  rw [HH, decide_eq_true (show (4 : Int) ≤ n2 by omega)] at hb
  have HE3 : Hid ((n2 : Int) < (H : Int) + nn → geF p = zF ∧ geE p = 3) := fun h => by
    have e : geE p = 3 := by
      unfold geE
      rw [if_neg (by simpa using h1), HLL.out, k2.len, if_neg (by omega), if_neg (by rw [HH]; decide), hH, hnn, if_pos h]
    exact ⟨by unfold geF; rw [e, if_neg (by decide)], e⟩
  have HE4 : Hid ((H : Int) + nn < (n2 : Int) → geF p = zF ∧ geE p = 4) := fun h => by
    have e : geE p = 4 := by
      unfold geE
      rw [if_neg (by simpa using h1), HLL.out, k2.len, if_neg (by omega), if_neg (by rw [HH]; decide), hH, hnn, if_neg (by omega), if_pos h]
    exact ⟨by unfold geF; rw [e, if_neg (by decide)], e⟩
  have HE0 : Hid ((H : Int) + nn = (n2 : Int) → geF p = rdF l ∧ geE p = 0) := fun h => by
    have e : geE p = 0 := by
      unfold geE
      rw [if_neg (by simpa using h1), HLL.out, k2.len, if_neg (by omega), if_neg (by rw [HH]; decide), hH, hnn, if_neg (by omega), if_neg (by omega)]
    exact ⟨by unfold geF; rw [e, if_pos rfl, HLL.out], e⟩
  have HNN := Lib.hid hnn
  clear hsB haB HH hH hnn
  obtain ⟨k, hk⟩ : ∃ k : Nat, w.heap.size = k := ⟨_, rfl⟩
  obtain ⟨w1, hw1⟩ : ∃ W, ((w.alloc (.cells #[.int .u8 (p).tos, .int .u16 (p).id, .bool (p).keep, .int .u8 (p).ttl, .int .u8 (p).proto, .int .u32 (p).src, .int .u32 (p).dst, .slice A1 n1 c1, .slice (some ⟨b, off, none⟩) n2 c2] 26)).alloc (.cells #[.int .u16 0, .bool false, .bool false, .int .u32 0, .int .u32 0, .slice none 0 0] 52)) = W := ⟨_, rfl⟩
  have P1 : Blk w1 k #[.int .u8 (p).tos, .int .u16 (p).id, .bool (p).keep, .int .u8 (p).ttl, .int .u8 (p).proto, .int .u32 (p).src, .int .u32 (p).dst, .slice A1 n1 c1, .slice (some ⟨b, off, none⟩) n2 c2] 26 := by rw [← hw1]; exact ((blk_new _ _ _ k (by simp [hk])).alloc _)
  have Z1 : Blk w1 (k + 1) #[.int .u16 0, .bool false, .bool false, .int .u32 0, .int .u32 0, .slice none 0 0] 52 := by rw [← hw1]; exact (blk_new _ _ _ (k + 1) (by simp [hk]))
  have R1 : Below w.heap.size w w1 := by rw [← hw1]; (repeat (first | with_reducible exact Below.refl _ _ | with_reducible refine below_drew ?_ | with_reducible refine below_drewN ?_ _ | with_reducible refine below_alloc ?_ (Nat.le_refl _) _ | with_reducible refine Below.setCell ?_ (by first | exact Nat.le_refl _ | (simp only []; omega)) _ | with_reducible assumption))
  have Pc1 := P1.cell
  have Zc1 := Z1.cell
  have Pl1 := P1.lt
  have Zl1 := Z1.lt
  have x1 := (k2).below R1
  have hb1 := hb w1 x1
  clear hb
  go_enter Try.func32, Try.ntmps32
  go_wp2_with (go_at_call 58; ((with_reducible refine (hb1).mono ?_); rintro e w2 ⟨rfl, rfl⟩))
  clear hb1
  refine region_txt 12 (by kernel_rfl) (by kernel_rfl) ?_; (iterate 12 (first | (apply ObsK.skip (by rfl)) | (apply ObsK.v (by rfl); (intro wo hT; (repeat (first | (intro v hv; (fail)) | (intro _ _ k; try have hcv := cv k))); (have bo := x1.below hT; have c0 := bo.at_ (j := 0) (by omega); rw [Nat.add_zero] at c0; have c1 := bo.at_ (j := 1) (by omega); have hsz : w1.heap.size ≤ wo.heap.size := hT.size); refine Goes.mk ?_; go_simp; first | exact goes_v | exact goes_b (by assumption) | exact goes_new hsz | (refine goes_enter ?_; first | (go_at_call 55; ((with_reducible refine (rget16_any (some ⟨b, off, none⟩) n2 c2 l 6 wo bo).mono ?_); rintro e w5 ⟨rfl, hD5⟩); exact ret_v hD5.bel)))) | (apply ObsK.b (by rfl); (intro wo hT; (repeat (first | (intro v hv; (fail)) | (intro _ _ k; try have hcv := cv k))); (have bo := x1.below hT; have c0 := bo.at_ (j := 0) (by omega); rw [Nat.add_zero] at c0; have c1 := bo.at_ (j := 1) (by omega); have hsz : w1.heap.size ≤ wo.heap.size := hT.size); refine Goes.mk ?_; go_simp; first | exact goes_v | exact goes_b (by assumption) | exact goes_new hsz | (refine goes_enter ?_; first | (go_at_call 55; ((with_reducible refine (rget16_any (some ⟨b, off, none⟩) n2 c2 l 6 wo bo).mono ?_); rintro e w5 ⟨rfl, hD5⟩); exact ret_v hD5.bel)))) | (apply ObsK.p (q := isNew w1.heap.size _ _) (by rfl) st_isNew; (intro wo hT; (repeat (first | (intro v hv; (fail)) | (intro _ _ k; try have hcv := cv k))); (have bo := x1.below hT; have c0 := bo.at_ (j := 0) (by omega); rw [Nat.add_zero] at c0; have c1 := bo.at_ (j := 1) (by omega); have hsz : w1.heap.size ≤ wo.heap.size := hT.size); refine Goes.mk ?_; go_simp; first | exact goes_v | exact goes_b (by assumption) | exact goes_new hsz | (refine goes_enter ?_; first | (go_at_call 55; ((with_reducible refine (rget16_any (some ⟨b, off, none⟩) n2 c2 l 6 wo bo).mono ?_); rintro e w5 ⟨rfl, hD5⟩); exact ret_v hD5.bel)))))); refine ObsK.nil ?_; intro wz hBz; simp only [finOn, List.drop_succ_cons, List.drop_zero, List.drop_nil]
  rintro vp ⟨gf, rfl, gfB, G⟩
  go_simp
  obtain ⟨w4, hw4, S4⟩ := store6 G (.int .u16 (get16 l 6)) (.bool s) (.bool a) (.int .u32 0) (.int .u32 0) (.slice none 0 0)
  have gc0 := G.cell
  have kk : w.heap.size ≤ w1.heap.size := R1.size
  have F4 := S4.blk
  have fc4 := F4.cell
  have Z4 := S4.other (by omega) (Z1.below hBz)
  have T4 := S4.bel (below_then R1 hBz) (by omega)
  have x4 := k2.below T4
  have hgf : w.heap.size ≤ gf := by omega
  have hgz : k + 1 ≠ gf := by omega
  clear hs ha
  cases s <;> cases a
  · simp only [if_true, if_false, Bool.false_eq_true, Nat.add_zero, Nat.reduceAdd] at hHd
    subst hHd
    have HRD : Hid (rdF l = ⟨get16 l 6, false, false, 0, 0, l.drop 8⟩) := HRd.out
    clear HRd
    have HE3' : Hid ((n2 : Int) < 8 + nn → geF p = zF ∧ geE p = 3) := HE3.out
    have HE4' : Hid (8 + nn < (n2 : Int) → geF p = zF ∧ geE p = 4) := HE4.out
    have HE0' : Hid (8 + nn = (n2 : Int) → geF p = rdF l ∧ geE p = 0) := HE0.out
    clear HE3 HE4 HE0
    by_cases t1 : (n2 : Int) < 8 + nn
    · go_wp2_with (go_at_call 55; ((with_reducible refine (rget16_any (some ⟨b, off, none⟩) n2 c2 l 4 w4 x4).mono ?_); rintro e w6 ⟨he6, hD6⟩); (rw [HNN.out] at he6); subst he6; have F6 := F4.below hD6.bel; have Z6 := Z4.below hD6.bel; have T6 := below_then T4 hD6.bel; have fc6 := F6.cell; have zc6 := Z6.cell; have fl6 := F6.lt; have zl6 := Z6.lt; have x6 := k2.below T6)
      obtain ⟨eF, eE⟩ := HE3'.out t1
      obtain ⟨wf, hwf, Sf⟩ := store6 Z6 (.int .u16 0) (.bool false) (.bool false) (.int .u32 0) (.int .u32 0) (.slice none 0 0)
      rw [hwf, eF, eE]
      have pf := Sf.blk.cell
      exact bodyPost_ret (by simp [results, Try.results32, go_sem, pf]) rfl (frPost_no (Sf.bel T6 (by omega)))
    · by_cases t2 : 8 + nn < (n2 : Int)
      · go_wp2_with (go_at_call 55; ((with_reducible refine (rget16_any (some ⟨b, off, none⟩) n2 c2 l 4 w4 x4).mono ?_); rintro e w6 ⟨he6, hD6⟩); (rw [HNN.out] at he6); subst he6; have F6 := F4.below hD6.bel; have Z6 := Z4.below hD6.bel; have T6 := below_then T4 hD6.bel; have fc6 := F6.cell; have zc6 := Z6.cell; have fl6 := F6.lt; have zl6 := Z6.lt; have x6 := k2.below T6)
        obtain ⟨eF, eE⟩ := HE4'.out t2
        obtain ⟨wf, hwf, Sf⟩ := store6 Z6 (.int .u16 0) (.bool false) (.bool false) (.int .u32 0) (.int .u32 0) (.slice none 0 0)
        rw [hwf, eF, eE]
        have pf := Sf.blk.cell
        exact bodyPost_ret (by simp [results, Try.results32, go_sem, pf]) rfl (frPost_no (Sf.bel T6 (by omega)))
      · have hcut : ∀ W, (Instr.slice 24 (.slice (some ⟨b, off, none⟩) n2 c2) (some (.int .i64 8)) none none).run Try.prog W = _ := fun W => cut_l Try.underlying24 hi8 hs8 (some ⟨b, off, none⟩) n2 c2 .i64 8 (by omega) (by omega) W
        obtain ⟨A', n', c', eA, en, ec, hbD⟩ := k2.cutE (lo := 8) (hi := n2) (by omega) (Nat.le_refl _)
        simp only [show (8 : Int).toNat = 8 from rfl, eA, en, ec] at hcut
        rw [hlL] at hbD
        have hn' : n' ≤ n2 := by omega
        clear eA en ec
        go_wp2_with (first
          | (go_at_call 55; ((with_reducible refine (rget16_any (some ⟨b, off, none⟩) n2 c2 l 4 w4 x4).mono ?_); rintro e w6 ⟨he6, hD6⟩); (rw [HNN.out] at he6); subst he6; have F6 := F4.below hD6.bel; have Z6 := Z4.below hD6.bel; have T6 := below_then T4 hD6.bel; have fc6 := F6.cell; have zc6 := Z6.cell; have fl6 := F6.lt; have zl6 := Z6.lt; have x6 := k2.below T6))
        refine region_txt 5 (by kernel_rfl) (by kernel_rfl) ?_; (iterate 5 (first | (apply ObsK.skip (by rfl)) | (apply ObsK.v (by rfl); (intro wo hT; (repeat (first | (intro _ _ k; try have hcv := cv k))); (have gc := (F6.below hT).cell); refine Goes.mk ?_; go_simp; first | exact goes_v | exact goes_b (by assumption) | (refine goes_enter ?_; first | fail))) | (apply ObsK.b (by rfl); (intro wo hT; (repeat (first | (intro _ _ k; try have hcv := cv k))); (have gc := (F6.below hT).cell); refine Goes.mk ?_; go_simp; first | exact goes_v | exact goes_b (by assumption) | (refine goes_enter ?_; first | fail))))); refine ObsK.nil ?_; intro wz hBz; simp only [finOn, List.drop_succ_cons, List.drop_zero, List.drop_nil]
        go_simp
        have F20 := F6.below hBz
        have Z20 := Z6.below hBz
        have T20 := below_then T6 hBz
        have D20 := hbD.below T20
        have gl := F20.lt
        have gs := hBz.size
        have z20l := Z20.lt
        go_wp2_with (first
          | (at_builtin; refine wpList_append_bs (w0 := wz) _ rfl _ _ _ rfl wz.heap.size 5 Try.underlying24 info_u8 none 0 0 [] rfl (own_nil _ _ _) A' n' c' _ rfl D20 (Below.refl _ _) (by omega) (by first | exact Nat.le_refl _ | exact Below.size (Below.refl _ _) | omega | (simp <;> omega)) ?_; intro A7 n7 c7 w27 ho7 hB7 _ hz7; have u7 : n7 = n' := (by have := ho7.len; have := D20.len; simp at *; omega); subst u7; replace ho7 : Own w27 wz.heap.size 5 A7 n7 c7 (l.drop 8) := ho7; have F27 := F20.below hB7; have gc7 := F27.cell; (obtain ⟨w28, hw28, S28⟩ := store1 F27 5 (.slice A7 n7 c7)); simp only [List.setIfInBounds_toArray, List.set_cons_zero, List.set_cons_succ] at S28; have gc8 := S28.blk.cell; have Z28 := S28.other hgz (Z20.below hB7); have zc8 := Z28.cell; have T28 := S28.bel (below_then T20 hB7) hgf; have O28 := S28.own ho7 (fun a e => by have := ho7.ge a e; omega)))
        obtain ⟨eF, eE⟩ := HE0'.out (by omega)
        rw [HRD.out] at eF
        obtain ⟨wf, hwf, Sf⟩ := store6 Z28 (.int .u16 (get16 l 6)) (.bool false) (.bool false) (.int .u32 (0)) (.int .u32 (0)) (.slice A7 n7 c7)
        rw [hwf, eF, eE]
        have pf := Sf.blk.cell
        have Of := Sf.own O28 (fun a e => by have := ho7.ge a e; omega)
        have s5 := T20.size
        exact bodyPost_ret (v := .tuple #[.agg #[.int .u16 (get16 l 6), .bool false, .bool false, .int .u32 (0), .int .u32 (0), .slice A7 n7 c7], .int .i64 0]) (by simp [results, Try.results32, go_sem, pf]) rfl ⟨A7, n7, c7, rfl, Of.mono s5, Sf.bel T28 (by omega)⟩
  · simp only [if_true, if_false, Bool.false_eq_true, Nat.add_zero, Nat.reduceAdd] at hHd
    subst hHd
    have HRD : Hid (rdF l = ⟨get16 l 6, false, true, 0, get32 l 8, l.drop 12⟩) := HRd.out
    clear HRd
    have HE3' : Hid ((n2 : Int) < 12 + nn → geF p = zF ∧ geE p = 3) := HE3.out
    have HE4' : Hid (12 + nn < (n2 : Int) → geF p = zF ∧ geE p = 4) := HE4.out
    have HE0' : Hid (12 + nn = (n2 : Int) → geF p = rdF l ∧ geE p = 0) := HE0.out
    clear HE3 HE4 HE0
    by_cases t1 : (n2 : Int) < 12 + nn
    · go_wp2_with (go_at_call 55; ((with_reducible refine (rget16_any (some ⟨b, off, none⟩) n2 c2 l 4 w4 x4).mono ?_); rintro e w6 ⟨he6, hD6⟩); (rw [HNN.out] at he6); subst he6; have F6 := F4.below hD6.bel; have Z6 := Z4.below hD6.bel; have T6 := below_then T4 hD6.bel; have fc6 := F6.cell; have zc6 := Z6.cell; have fl6 := F6.lt; have zl6 := Z6.lt; have x6 := k2.below T6)
      obtain ⟨eF, eE⟩ := HE3'.out t1
      obtain ⟨wf, hwf, Sf⟩ := store6 Z6 (.int .u16 0) (.bool false) (.bool false) (.int .u32 0) (.int .u32 0) (.slice none 0 0)
      rw [hwf, eF, eE]
      have pf := Sf.blk.cell
      exact bodyPost_ret (by simp [results, Try.results32, go_sem, pf]) rfl (frPost_no (Sf.bel T6 (by omega)))
    · by_cases t2 : 12 + nn < (n2 : Int)
      · go_wp2_with (go_at_call 55; ((with_reducible refine (rget16_any (some ⟨b, off, none⟩) n2 c2 l 4 w4 x4).mono ?_); rintro e w6 ⟨he6, hD6⟩); (rw [HNN.out] at he6); subst he6; have F6 := F4.below hD6.bel; have Z6 := Z4.below hD6.bel; have T6 := below_then T4 hD6.bel; have fc6 := F6.cell; have zc6 := Z6.cell; have fl6 := F6.lt; have zl6 := Z6.lt; have x6 := k2.below T6)
        obtain ⟨eF, eE⟩ := HE4'.out t2
        obtain ⟨wf, hwf, Sf⟩ := store6 Z6 (.int .u16 0) (.bool false) (.bool false) (.int .u32 0) (.int .u32 0) (.slice none 0 0)
        rw [hwf, eF, eE]
        have pf := Sf.blk.cell
        exact bodyPost_ret (by simp [results, Try.results32, go_sem, pf]) rfl (frPost_no (Sf.bel T6 (by omega)))
      · have hcut : ∀ W, (Instr.slice 24 (.slice (some ⟨b, off, none⟩) n2 c2) (some (.int .i64 12)) none none).run Try.prog W = _ := fun W => cut_l Try.underlying24 hi8 hs8 (some ⟨b, off, none⟩) n2 c2 .i64 12 (by omega) (by omega) W
        obtain ⟨A', n', c', eA, en, ec, hbD⟩ := k2.cutE (lo := 12) (hi := n2) (by omega) (Nat.le_refl _)
        simp only [show (12 : Int).toNat = 12 from rfl, eA, en, ec] at hcut
        rw [hlL] at hbD
        have hn' : n' ≤ n2 := by omega
        clear eA en ec
        go_wp2_with (first
          | (go_at_call 55; ((with_reducible refine (rget16_any (some ⟨b, off, none⟩) n2 c2 l 4 w4 x4).mono ?_); rintro e w6 ⟨he6, hD6⟩); (rw [HNN.out] at he6); subst he6; have F6 := F4.below hD6.bel; have Z6 := Z4.below hD6.bel; have T6 := below_then T4 hD6.bel; have fc6 := F6.cell; have zc6 := Z6.cell; have fl6 := F6.lt; have zl6 := Z6.lt; have x6 := k2.below T6)
          | (go_at_call 56; ((with_reducible refine (rget32_any (some ⟨b, off, none⟩) n2 c2 l 8 w6 x6).mono ?_); rintro e w7 ⟨rfl, hD7⟩); have F7 := F6.below hD7.bel; have fc7 := F7.cell; (obtain ⟨w8, hw8, S8⟩ := store1 F7 4 (.int .u32 (get32 l 8))); simp only [List.setIfInBounds_toArray, List.set_cons_zero, List.set_cons_succ] at S8; have F8 := S8.blk; have Z8 := S8.other hgz (Z6.below hD7.bel); have T8 := S8.bel (below_then T6 hD7.bel) hgf; have fc8 := F8.cell; have x8 := k2.below T8; have zl8 := Z8.lt))
        refine region_txt 5 (by kernel_rfl) (by kernel_rfl) ?_; (iterate 5 (first | (apply ObsK.skip (by rfl)) | (apply ObsK.v (by rfl); (intro wo hT; (repeat (first | (intro _ _ k; try have hcv := cv k))); (have gc := (F8.below hT).cell); refine Goes.mk ?_; go_simp; first | exact goes_v | exact goes_b (by assumption) | (refine goes_enter ?_; first | fail))) | (apply ObsK.b (by rfl); (intro wo hT; (repeat (first | (intro _ _ k; try have hcv := cv k))); (have gc := (F8.below hT).cell); refine Goes.mk ?_; go_simp; first | exact goes_v | exact goes_b (by assumption) | (refine goes_enter ?_; first | fail))))); refine ObsK.nil ?_; intro wz hBz; simp only [finOn, List.drop_succ_cons, List.drop_zero, List.drop_nil]
        go_simp
        have F20 := F8.below hBz
        have Z20 := Z8.below hBz
        have T20 := below_then T8 hBz
        have D20 := hbD.below T20
        have gl := F20.lt
        have gs := hBz.size
        have z20l := Z20.lt
        go_wp2_with (first
          | (at_builtin; refine wpList_append_bs (w0 := wz) _ rfl _ _ _ rfl wz.heap.size 5 Try.underlying24 info_u8 none 0 0 [] rfl (own_nil _ _ _) A' n' c' _ rfl D20 (Below.refl _ _) (by omega) (by first | exact Nat.le_refl _ | exact Below.size (Below.refl _ _) | omega | (simp <;> omega)) ?_; intro A7 n7 c7 w27 ho7 hB7 _ hz7; have u7 : n7 = n' := (by have := ho7.len; have := D20.len; simp at *; omega); subst u7; replace ho7 : Own w27 wz.heap.size 5 A7 n7 c7 (l.drop 12) := ho7; have F27 := F20.below hB7; have gc7 := F27.cell; (obtain ⟨w28, hw28, S28⟩ := store1 F27 5 (.slice A7 n7 c7)); simp only [List.setIfInBounds_toArray, List.set_cons_zero, List.set_cons_succ] at S28; have gc8 := S28.blk.cell; have Z28 := S28.other hgz (Z20.below hB7); have zc8 := Z28.cell; have T28 := S28.bel (below_then T20 hB7) hgf; have O28 := S28.own ho7 (fun a e => by have := ho7.ge a e; omega)))
        obtain ⟨eF, eE⟩ := HE0'.out (by omega)
        rw [HRD.out] at eF
        obtain ⟨wf, hwf, Sf⟩ := store6 Z28 (.int .u16 (get16 l 6)) (.bool false) (.bool true) (.int .u32 (0)) (.int .u32 (get32 l 8)) (.slice A7 n7 c7)
        rw [hwf, eF, eE]
        have pf := Sf.blk.cell
        have Of := Sf.own O28 (fun a e => by have := ho7.ge a e; omega)
        have s5 := T20.size
        exact bodyPost_ret (v := .tuple #[.agg #[.int .u16 (get16 l 6), .bool false, .bool true, .int .u32 (0), .int .u32 (get32 l 8), .slice A7 n7 c7], .int .i64 0]) (by simp [results, Try.results32, go_sem, pf]) rfl ⟨A7, n7, c7, rfl, Of.mono s5, Sf.bel T28 (by omega)⟩
  · simp only [if_true, if_false, Bool.false_eq_true, Nat.add_zero, Nat.reduceAdd] at hHd
    subst hHd
    have HRD : Hid (rdF l = ⟨get16 l 6, true, false, get32 l 8, 0, l.drop 12⟩) := HRd.out
    clear HRd
    have HE3' : Hid ((n2 : Int) < 12 + nn → geF p = zF ∧ geE p = 3) := HE3.out
    have HE4' : Hid (12 + nn < (n2 : Int) → geF p = zF ∧ geE p = 4) := HE4.out
    have HE0' : Hid (12 + nn = (n2 : Int) → geF p = rdF l ∧ geE p = 0) := HE0.out
    clear HE3 HE4 HE0
    by_cases t1 : (n2 : Int) < 12 + nn
    · go_wp2_with (go_at_call 55; ((with_reducible refine (rget16_any (some ⟨b, off, none⟩) n2 c2 l 4 w4 x4).mono ?_); rintro e w6 ⟨he6, hD6⟩); (rw [HNN.out] at he6); subst he6; have F6 := F4.below hD6.bel; have Z6 := Z4.below hD6.bel; have T6 := below_then T4 hD6.bel; have fc6 := F6.cell; have zc6 := Z6.cell; have fl6 := F6.lt; have zl6 := Z6.lt; have x6 := k2.below T6)
      obtain ⟨eF, eE⟩ := HE3'.out t1
      obtain ⟨wf, hwf, Sf⟩ := store6 Z6 (.int .u16 0) (.bool false) (.bool false) (.int .u32 0) (.int .u32 0) (.slice none 0 0)
      rw [hwf, eF, eE]
      have pf := Sf.blk.cell
      exact bodyPost_ret (by simp [results, Try.results32, go_sem, pf]) rfl (frPost_no (Sf.bel T6 (by omega)))
    · by_cases t2 : 12 + nn < (n2 : Int)
      · go_wp2_with (go_at_call 55; ((with_reducible refine (rget16_any (some ⟨b, off, none⟩) n2 c2 l 4 w4 x4).mono ?_); rintro e w6 ⟨he6, hD6⟩); (rw [HNN.out] at he6); subst he6; have F6 := F4.below hD6.bel; have Z6 := Z4.below hD6.bel; have T6 := below_then T4 hD6.bel; have fc6 := F6.cell; have zc6 := Z6.cell; have fl6 := F6.lt; have zl6 := Z6.lt; have x6 := k2.below T6)
        obtain ⟨eF, eE⟩ := HE4'.out t2
        obtain ⟨wf, hwf, Sf⟩ := store6 Z6 (.int .u16 0) (.bool false) (.bool false) (.int .u32 0) (.int .u32 0) (.slice none 0 0)
        rw [hwf, eF, eE]
        have pf := Sf.blk.cell
        exact bodyPost_ret (by simp [results, Try.results32, go_sem, pf]) rfl (frPost_no (Sf.bel T6 (by omega)))
      · have hcut : ∀ W, (Instr.slice 24 (.slice (some ⟨b, off, none⟩) n2 c2) (some (.int .i64 12)) none none).run Try.prog W = _ := fun W => cut_l Try.underlying24 hi8 hs8 (some ⟨b, off, none⟩) n2 c2 .i64 12 (by omega) (by omega) W
        obtain ⟨A', n', c', eA, en, ec, hbD⟩ := k2.cutE (lo := 12) (hi := n2) (by omega) (Nat.le_refl _)
        simp only [show (12 : Int).toNat = 12 from rfl, eA, en, ec] at hcut
        rw [hlL] at hbD
        have hn' : n' ≤ n2 := by omega
        clear eA en ec
        go_wp2_with (first
          | (go_at_call 55; ((with_reducible refine (rget16_any (some ⟨b, off, none⟩) n2 c2 l 4 w4 x4).mono ?_); rintro e w6 ⟨he6, hD6⟩); (rw [HNN.out] at he6); subst he6; have F6 := F4.below hD6.bel; have Z6 := Z4.below hD6.bel; have T6 := below_then T4 hD6.bel; have fc6 := F6.cell; have zc6 := Z6.cell; have fl6 := F6.lt; have zl6 := Z6.lt; have x6 := k2.below T6)
          | (go_at_call 56; ((with_reducible refine (rget32_any (some ⟨b, off, none⟩) n2 c2 l 8 w6 x6).mono ?_); rintro e w7 ⟨rfl, hD7⟩); have F7 := F6.below hD7.bel; have fc7 := F7.cell; (obtain ⟨w8, hw8, S8⟩ := store1 F7 3 (.int .u32 (get32 l 8))); simp only [List.setIfInBounds_toArray, List.set_cons_zero, List.set_cons_succ] at S8; have F8 := S8.blk; have Z8 := S8.other hgz (Z6.below hD7.bel); have T8 := S8.bel (below_then T6 hD7.bel) hgf; have fc8 := F8.cell; have x8 := k2.below T8; have zl8 := Z8.lt))
        refine region_txt 5 (by kernel_rfl) (by kernel_rfl) ?_; (iterate 5 (first | (apply ObsK.skip (by rfl)) | (apply ObsK.v (by rfl); (intro wo hT; (repeat (first | (intro _ _ k; try have hcv := cv k))); (have gc := (F8.below hT).cell); refine Goes.mk ?_; go_simp; first | exact goes_v | exact goes_b (by assumption) | (refine goes_enter ?_; first | fail))) | (apply ObsK.b (by rfl); (intro wo hT; (repeat (first | (intro _ _ k; try have hcv := cv k))); (have gc := (F8.below hT).cell); refine Goes.mk ?_; go_simp; first | exact goes_v | exact goes_b (by assumption) | (refine goes_enter ?_; first | fail))))); refine ObsK.nil ?_; intro wz hBz; simp only [finOn, List.drop_succ_cons, List.drop_zero, List.drop_nil]
        go_simp
        have F20 := F8.below hBz
        have Z20 := Z8.below hBz
        have T20 := below_then T8 hBz
        have D20 := hbD.below T20
        have gl := F20.lt
        have gs := hBz.size
        have z20l := Z20.lt
        go_wp2_with (first
          | (at_builtin; refine wpList_append_bs (w0 := wz) _ rfl _ _ _ rfl wz.heap.size 5 Try.underlying24 info_u8 none 0 0 [] rfl (own_nil _ _ _) A' n' c' _ rfl D20 (Below.refl _ _) (by omega) (by first | exact Nat.le_refl _ | exact Below.size (Below.refl _ _) | omega | (simp <;> omega)) ?_; intro A7 n7 c7 w27 ho7 hB7 _ hz7; have u7 : n7 = n' := (by have := ho7.len; have := D20.len; simp at *; omega); subst u7; replace ho7 : Own w27 wz.heap.size 5 A7 n7 c7 (l.drop 12) := ho7; have F27 := F20.below hB7; have gc7 := F27.cell; (obtain ⟨w28, hw28, S28⟩ := store1 F27 5 (.slice A7 n7 c7)); simp only [List.setIfInBounds_toArray, List.set_cons_zero, List.set_cons_succ] at S28; have gc8 := S28.blk.cell; have Z28 := S28.other hgz (Z20.below hB7); have zc8 := Z28.cell; have T28 := S28.bel (below_then T20 hB7) hgf; have O28 := S28.own ho7 (fun a e => by have := ho7.ge a e; omega)))
        obtain ⟨eF, eE⟩ := HE0'.out (by omega)
        rw [HRD.out] at eF
        obtain ⟨wf, hwf, Sf⟩ := store6 Z28 (.int .u16 (get16 l 6)) (.bool true) (.bool false) (.int .u32 (get32 l 8)) (.int .u32 (0)) (.slice A7 n7 c7)
        rw [hwf, eF, eE]
        have pf := Sf.blk.cell
        have Of := Sf.own O28 (fun a e => by have := ho7.ge a e; omega)
        have s5 := T20.size
        exact bodyPost_ret (v := .tuple #[.agg #[.int .u16 (get16 l 6), .bool true, .bool false, .int .u32 (get32 l 8), .int .u32 (0), .slice A7 n7 c7], .int .i64 0]) (by simp [results, Try.results32, go_sem, pf]) rfl ⟨A7, n7, c7, rfl, Of.mono s5, Sf.bel T28 (by omega)⟩
  · simp only [if_true, if_false, Bool.false_eq_true, Nat.add_zero, Nat.reduceAdd] at hHd
    subst hHd
    have HRD : Hid (rdF l = ⟨get16 l 6, true, true, get32 l 8, get32 l 12, l.drop 16⟩) := HRd.out
    clear HRd
    have HE3' : Hid ((n2 : Int) < 16 + nn → geF p = zF ∧ geE p = 3) := HE3.out
    have HE4' : Hid (16 + nn < (n2 : Int) → geF p = zF ∧ geE p = 4) := HE4.out
    have HE0' : Hid (16 + nn = (n2 : Int) → geF p = rdF l ∧ geE p = 0) := HE0.out
    clear HE3 HE4 HE0
    by_cases t1 : (n2 : Int) < 16 + nn
    · go_wp2_with (go_at_call 55; ((with_reducible refine (rget16_any (some ⟨b, off, none⟩) n2 c2 l 4 w4 x4).mono ?_); rintro e w6 ⟨he6, hD6⟩); (rw [HNN.out] at he6); subst he6; have F6 := F4.below hD6.bel; have Z6 := Z4.below hD6.bel; have T6 := below_then T4 hD6.bel; have fc6 := F6.cell; have zc6 := Z6.cell; have fl6 := F6.lt; have zl6 := Z6.lt; have x6 := k2.below T6)
      obtain ⟨eF, eE⟩ := HE3'.out t1
      obtain ⟨wf, hwf, Sf⟩ := store6 Z6 (.int .u16 0) (.bool false) (.bool false) (.int .u32 0) (.int .u32 0) (.slice none 0 0)
      rw [hwf, eF, eE]
      have pf := Sf.blk.cell
      exact bodyPost_ret (by simp [results, Try.results32, go_sem, pf]) rfl (frPost_no (Sf.bel T6 (by omega)))
    · by_cases t2 : 16 + nn < (n2 : Int)
      · go_wp2_with (go_at_call 55; ((with_reducible refine (rget16_any (some ⟨b, off, none⟩) n2 c2 l 4 w4 x4).mono ?_); rintro e w6 ⟨he6, hD6⟩); (rw [HNN.out] at he6); subst he6; have F6 := F4.below hD6.bel; have Z6 := Z4.below hD6.bel; have T6 := below_then T4 hD6.bel; have fc6 := F6.cell; have zc6 := Z6.cell; have fl6 := F6.lt; have zl6 := Z6.lt; have x6 := k2.below T6)
        obtain ⟨eF, eE⟩ := HE4'.out t2
        obtain ⟨wf, hwf, Sf⟩ := store6 Z6 (.int .u16 0) (.bool false) (.bool false) (.int .u32 0) (.int .u32 0) (.slice none 0 0)
        rw [hwf, eF, eE]
        have pf := Sf.blk.cell
        exact bodyPost_ret (by simp [results, Try.results32, go_sem, pf]) rfl (frPost_no (Sf.bel T6 (by omega)))
      · have hcut : ∀ W, (Instr.slice 24 (.slice (some ⟨b, off, none⟩) n2 c2) (some (.int .i64 16)) none none).run Try.prog W = _ := fun W => cut_l Try.underlying24 hi8 hs8 (some ⟨b, off, none⟩) n2 c2 .i64 16 (by omega) (by omega) W
        obtain ⟨A', n', c', eA, en, ec, hbD⟩ := k2.cutE (lo := 16) (hi := n2) (by omega) (Nat.le_refl _)
        simp only [show (16 : Int).toNat = 16 from rfl, eA, en, ec] at hcut
        rw [hlL] at hbD
        have hn' : n' ≤ n2 := by omega
        clear eA en ec
        go_wp2_with (first
          | (go_at_call 55; ((with_reducible refine (rget16_any (some ⟨b, off, none⟩) n2 c2 l 4 w4 x4).mono ?_); rintro e w6 ⟨he6, hD6⟩); (rw [HNN.out] at he6); subst he6; have F6 := F4.below hD6.bel; have Z6 := Z4.below hD6.bel; have T6 := below_then T4 hD6.bel; have fc6 := F6.cell; have zc6 := Z6.cell; have fl6 := F6.lt; have zl6 := Z6.lt; have x6 := k2.below T6)
          | (go_at_call 56; ((with_reducible refine (rget32_any (some ⟨b, off, none⟩) n2 c2 l 8 w6 x6).mono ?_); rintro e w7 ⟨rfl, hD7⟩); have F7 := F6.below hD7.bel; have fc7 := F7.cell; (obtain ⟨w8, hw8, S8⟩ := store1 F7 3 (.int .u32 (get32 l 8))); simp only [List.setIfInBounds_toArray, List.set_cons_zero, List.set_cons_succ] at S8; have F8 := S8.blk; have Z8 := S8.other hgz (Z6.below hD7.bel); have T8 := S8.bel (below_then T6 hD7.bel) hgf; have fc8 := F8.cell; have x8 := k2.below T8; have zl8 := Z8.lt)
          | (go_at_call 56; ((with_reducible refine (rget32_any (some ⟨b, off, none⟩) n2 c2 l 12 w8 x8).mono ?_); rintro e w9 ⟨rfl, hD9⟩); have F9 := F8.below hD9.bel; have fc9 := F9.cell; (obtain ⟨w10, hw10, S10⟩ := store1 F9 4 (.int .u32 (get32 l 12))); simp only [List.setIfInBounds_toArray, List.set_cons_zero, List.set_cons_succ] at S10; have F10 := S10.blk; have Z10 := S10.other hgz (Z8.below hD9.bel); have T10 := S10.bel (below_then T8 hD9.bel) hgf; have fc10 := F10.cell; have x10 := k2.below T10; have zl10 := Z10.lt))
        refine region_txt 5 (by kernel_rfl) (by kernel_rfl) ?_; (iterate 5 (first | (apply ObsK.skip (by rfl)) | (apply ObsK.v (by rfl); (intro wo hT; (repeat (first | (intro _ _ k; try have hcv := cv k))); (have gc := (F10.below hT).cell); refine Goes.mk ?_; go_simp; first | exact goes_v | exact goes_b (by assumption) | (refine goes_enter ?_; first | fail))) | (apply ObsK.b (by rfl); (intro wo hT; (repeat (first | (intro _ _ k; try have hcv := cv k))); (have gc := (F10.below hT).cell); refine Goes.mk ?_; go_simp; first | exact goes_v | exact goes_b (by assumption) | (refine goes_enter ?_; first | fail))))); refine ObsK.nil ?_; intro wz hBz; simp only [finOn, List.drop_succ_cons, List.drop_zero, List.drop_nil]
        go_simp
        have F20 := F10.below hBz
        have Z20 := Z10.below hBz
        have T20 := below_then T10 hBz
        have D20 := hbD.below T20
        have gl := F20.lt
        have gs := hBz.size
        have z20l := Z20.lt
        go_wp2_with (first
          | (at_builtin; refine wpList_append_bs (w0 := wz) _ rfl _ _ _ rfl wz.heap.size 5 Try.underlying24 info_u8 none 0 0 [] rfl (own_nil _ _ _) A' n' c' _ rfl D20 (Below.refl _ _) (by omega) (by first | exact Nat.le_refl _ | exact Below.size (Below.refl _ _) | omega | (simp <;> omega)) ?_; intro A7 n7 c7 w27 ho7 hB7 _ hz7; have u7 : n7 = n' := (by have := ho7.len; have := D20.len; simp at *; omega); subst u7; replace ho7 : Own w27 wz.heap.size 5 A7 n7 c7 (l.drop 16) := ho7; have F27 := F20.below hB7; have gc7 := F27.cell; (obtain ⟨w28, hw28, S28⟩ := store1 F27 5 (.slice A7 n7 c7)); simp only [List.setIfInBounds_toArray, List.set_cons_zero, List.set_cons_succ] at S28; have gc8 := S28.blk.cell; have Z28 := S28.other hgz (Z20.below hB7); have zc8 := Z28.cell; have T28 := S28.bel (below_then T20 hB7) hgf; have O28 := S28.own ho7 (fun a e => by have := ho7.ge a e; omega)))
        obtain ⟨eF, eE⟩ := HE0'.out (by omega)
        rw [HRD.out] at eF
        obtain ⟨wf, hwf, Sf⟩ := store6 Z28 (.int .u16 (get16 l 6)) (.bool true) (.bool true) (.int .u32 (get32 l 8)) (.int .u32 (get32 l 12)) (.slice A7 n7 c7)
        rw [hwf, eF, eE]
        have pf := Sf.blk.cell
        have Of := Sf.own O28 (fun a e => by have := ho7.ge a e; omega)
        have s5 := T20.size
        exact bodyPost_ret (v := .tuple #[.agg #[.int .u16 (get16 l 6), .bool true, .bool true, .int .u32 (get32 l 8), .int .u32 (get32 l 12), .slice A7 n7 c7], .int .i64 0]) (by simp [results, Try.results32, go_sem, pf]) rfl ⟨A7, n7, c7, rfl, Of.mono s5, Sf.bel T28 (by omega)⟩
theorem rgre_any (p : Pkt) (A1 : Option Addr) (n1 c1 : Nat) (A2 : Option Addr) (n2 c2 : Nat) (w : World) (k2 : Bs w A2 n2 c2 p.dat) :
    Calls Try.prog 32 #[(.agg #[.int .u8 (p).tos, .int .u16 (p).id, .bool (p).keep, .int .u8 (p).ttl, .int .u8 (p).proto, .int .u32 (p).src, .int .u32 (p).dst, .slice A1 n1 c1, .slice A2 n2 c2])] w (FrPost w (geF p) (geE p)) := by
  have l2 := k2.len
  by_cases h1 : p.proto = 47
  · have h1' : (p.proto != 47) = false := by simp [h1]
    by_cases h2 : 8 ≤ (n2 : Int)
    · cases hq : begB p.dat with
      | true => exact rgre_yes p A1 n1 c1 A2 n2 c2 w k2 h1' h2 hq
      | false =>
        have e : geE p = 4 := by unfold geE; rw [if_neg (by simp [h1]), l2, if_neg (by omega), if_pos hq]
        rw [show geF p = zF from by unfold geF; rw [e, if_neg (by decide)], e]
        exact rgre_no p A1 n1 c1 A2 n2 c2 w k2 4 (.inr (.inr ⟨rfl, h1', h2, hq⟩))
    · have e : geE p = 3 := by unfold geE; rw [if_neg (by simp [h1]), l2, if_pos (by omega)]
      rw [show geF p = zF from by unfold geF; rw [e, if_neg (by decide)], e]
      exact rgre_no p A1 n1 c1 A2 n2 c2 w k2 3 (.inr (.inl ⟨rfl, h1', by omega⟩))
  · have e : geE p = 12 := by unfold geE; rw [if_pos h1]
    rw [show geF p = zF from by unfold geF; rw [e, if_neg (by decide)], e]
    exact rgre_no p A1 n1 c1 A2 n2 c2 w k2 12 (.inl ⟨rfl, by simpa using h1⟩)
end Go.Proofs.Ythgoffbfgdgkpaa

namespace Go.Proofs.Ythgoffbfgdgkpaa
open Go.RowKit
set_option linter.unusedVariables false
set_option linter.unusedSimpArgs false

theorem Blk.idle {w : World} {k : Nat} {cs : Array Value} {t : TypeId} (h : Blk w k cs t) {j : Nat} {v : Value} (hv : cs[j]? = some v) : w.setCell ⟨k, j, none⟩ v = w := by
  have hr := h.rd
  have hs : cs.setIfInBounds j v = cs := by
    apply Array.ext_getElem?
    intro i
    rw [Array.getElem?_setIfInBounds]
    split
    · rename_i e
      subst e
      rw [hv]
      split
      · rfl
      · rename_i h2
        rw [Array.getElem?_eq_none (by omega)] at hv
        cases hv
    · rfl
  unfold World.setCell
  have : (w.heap.modify k fun
      | .cells c elem frozen => .cells (if (none : Option Nat).isSome then c else c.setIfInBounds j v) elem frozen
      | o => o) = w.heap := by
    apply Array.ext_getElem?
    intro i
    rw [Array.getElem?_modify]
    split
    · rename_i e
      subst e
      rw [hr]
      simp [hs]
    · rfl
  simp only
  first | (rw [this]; done) | (show ({ w with heap := _ } : World) = w; exact congrArg (fun h => ({ w with heap := h } : World)) this)
end Go.Proofs.Ythgoffbfgdgkpaa

namespace Go.Proofs.Ythgoffbfgdgkpaa
open Go.RowKit
set_option linter.unusedVariables false
set_option linter.unusedSimpArgs false
set_option maxHeartbeats 8000000
set_option maxRecDepth 100000

theorem store34 {W : World} {r : Nat} {c0 c1 c2 c3 c4 : Value} {t : TypeId} (R : Blk W r #[c0, c1, c2, c3, c4] t) (v3 v4 : Value) :
    ∃ wf, ((W.setCell ⟨r, 3, none⟩ v3).setCell ⟨r, 4, none⟩ v4) = wf ∧ Sto W r wf #[c0, c1, c2, v3, v4] t := by
  have h := ((Sto.nil R).set 3 v3).set 4 v4
  simp only [List.setIfInBounds_toArray, List.set_cons_zero, List.set_cons_succ] at h
  exact ⟨_, rfl, h⟩
theorem store4_ {W : World} {r : Nat} {c0 c1 c2 c3 c4 : Value} {t : TypeId} (R : Blk W r #[c0, c1, c2, c3, c4] t) (v4 : Value) :
    ∃ wf, (W.setCell ⟨r, 4, none⟩ v4) = wf ∧ Sto W r wf #[c0, c1, c2, c3, v4] t := by
  have h := (Sto.nil R).set 4 v4
  simp only [List.setIfInBounds_toArray, List.set_cons_zero, List.set_cons_succ] at h
  exact ⟨_, rfl, h⟩
theorem rof_tcp_ (p : Pkt) (A1 : Option Addr) (n1 c1 : Nat) (A2 : Option Addr) (n2 c2 : Nat) (w : World) (k2 : Bs w A2 n2 c2 p.dat) (hpr : p.proto = 6) (s : Seg) (E : Int)
    (ht : ∀ W, Bs W A2 n2 c2 p.dat → Calls Try.prog 29 #[(.agg #[.int .u8 (p).tos, .int .u16 (p).id, .bool (p).keep, .int .u8 (p).ttl, .int .u8 (p).proto, .int .u32 (p).src, .int .u32 (p).dst, .slice A1 n1 c1, .slice A2 n2 c2])] W (TcPost W s E)) :
    Calls Try.prog 11 #[(.agg #[.int .u8 (p).tos, .int .u16 (p).id, .bool (p).keep, .int .u8 (p).ttl, .int .u8 (p).proto, .int .u32 (p).src, .int .u32 (p).dst, .slice A1 n1 c1, .slice A2 n2 c2])] w (TtPost w (tuP p s.src s.dst E) E) := by
  have y6 : (p.proto == 6) = true := by rw [hpr]; rfl
  clear hpr
  obtain ⟨k, hk⟩ : ∃ k : Nat, w.heap.size = k := ⟨_, rfl⟩
  obtain ⟨w1, hw1⟩ : ∃ W, (((w.alloc (.cells #[.int .u8 (p).tos, .int .u16 (p).id, .bool (p).keep, .int .u8 (p).ttl, .int .u8 (p).proto, .int .u32 (p).src, .int .u32 (p).dst, .slice A1 n1 c1, .slice A2 n2 c2] 26)).alloc (.cells #[.int .u8 0, .int .u32 0, .int .u32 0, .int .u16 0, .int .u16 0] 28)).alloc (.cells #[.int .u8 p.proto, .int .u32 p.src, .int .u32 p.dst, .int .u16 0, .int .u16 0] 28)) = W := ⟨_, rfl⟩
  have P1 : Blk w1 k #[.int .u8 (p).tos, .int .u16 (p).id, .bool (p).keep, .int .u8 (p).ttl, .int .u8 (p).proto, .int .u32 (p).src, .int .u32 (p).dst, .slice A1 n1 c1, .slice A2 n2 c2] 26 := by rw [← hw1]; exact (((blk_new _ _ _ k (by simp [hk])).alloc _).alloc _)
  have Z1 : Blk w1 (k + 1) #[.int .u8 0, .int .u32 0, .int .u32 0, .int .u16 0, .int .u16 0] 28 := by rw [← hw1]; exact ((blk_new _ _ _ (k + 1) (by simp [hk])).alloc _)
  have X1 : Blk w1 (k + 1 + 1) #[.int .u8 p.proto, .int .u32 p.src, .int .u32 p.dst, .int .u16 0, .int .u16 0] 28 := by rw [← hw1]; exact (blk_new _ _ _ (k + 1 + 1) (by simp [hk]))
  have R1 : Below w.heap.size w w1 := by rw [← hw1]; (repeat (first | with_reducible exact Below.refl _ _ | with_reducible refine below_drew ?_ | with_reducible refine below_drewN ?_ _ | with_reducible refine below_alloc ?_ (Nat.le_refl _) _ | with_reducible refine Below.setCell ?_ (by first | exact Nat.le_refl _ | (simp only []; omega)) _ | with_reducible assumption))
  have Pc1 := P1.cell
  have Zc1 := Z1.cell
  have Xc1 := X1.cell
  have Pl1 := P1.lt
  have Zl1 := Z1.lt
  have Xl1 := X1.lt
  have x1 := (k2).below R1
  have i3 : w1.setCell ⟨k + 1 + 1, 3, none⟩ (.int .u16 0) = w1 := X1.idle rfl
  have i4 : w1.setCell ⟨k + 1 + 1, 4, none⟩ (.int .u16 0) = w1 := X1.idle rfl
  by_cases h0 : E = 0
  case neg =>
    have h0b : (E != 0) = true := by simpa using h0
    have hz : tuP p s.src s.dst E = zT := by unfold tuP; rw [if_pos h0]
    rw [hz]
    clear h0 hz
    go_enter Try.func11, Try.ntmps11
    go_wp2_with (go_at_call 29; ((with_reducible refine (ht w1 x1).mono ?_); rintro e u2 ⟨⟨OA, on, oc, DA, dn, dc, rfl, -, -, -, hB2⟩⟩); (obtain ⟨w2, hw2⟩ : ∃ W, u2.alloc (.cells #[.int .u16 (s).src, .int .u16 (s).dst, .int .u32 (s).seq, .int .u32 (s).ack, .int .u8 (s).flags, .int .u16 (s).win, .int .u16 (s).urg, .slice OA on oc, .slice DA dn dc] 42) = W := ⟨_, rfl⟩); have V2 : Below u2.heap.size u2 w2 := (by rw [← hw2]; (repeat (first | with_reducible exact Below.refl _ _ | with_reducible refine below_drew ?_ | with_reducible refine below_drewN ?_ _ | with_reducible refine below_alloc ?_ (Nat.le_refl _) _ | with_reducible refine Below.setCell ?_ (by first | exact Nat.le_refl _ | (simp only []; omega)) _ | with_reducible assumption))); (obtain ⟨kS2, hkS2⟩ : ∃ k : Nat, u2.heap.size = k := ⟨_, rfl⟩); have S2 : Blk w2 kS2 #[.int .u16 (s).src, .int .u16 (s).dst, .int .u32 (s).seq, .int .u32 (s).ack, .int .u8 (s).flags, .int .u16 (s).win, .int .u16 (s).urg, .slice OA on oc, .slice DA dn dc] 42 := (by rw [← hw2]; exact blk_new u2 _ _ _ hkS2); have Sc2 := S2.cell; have T2 := below_then hB2 V2; have P2 := P1.below T2; have Pc2 := P2.cell; clear Pc1; have Z2 := Z1.below T2; have Zc2 := Z2.cell; clear Zc1; have X2 := X1.below T2; have Xc2 := X2.cell; clear Xc1; have x2 := x1.below T2; have R2 := below_then R1 T2)
    obtain ⟨wf, hwf, Sf⟩ := store5 Z2 (.int .u8 0) (.int .u32 0) (.int .u32 0) (.int .u16 0) (.int .u16 0)
    rw [hwf]
    have pf := Sf.blk.cell
    exact bodyPost_ret (v := .tuple #[(.agg #[.int .u8 (zT).proto, .int .u32 (zT).src, .int .u32 (zT).dst, .int .u16 (zT).sp, .int .u16 (zT).dp]), .int .i64 E]) (by simp [results, Try.results11, go_sem, pf, zT]) rfl ⟨⟨rfl, Sf.bel R2 (by omega)⟩⟩

  subst h0
  have hok : tuP p s.src s.dst 0 = ⟨p.proto, p.src, p.dst, s.src, s.dst⟩ := by unfold tuP; rw [if_neg (by simp)]
  rw [hok]
  clear hok
  go_enter Try.func11, Try.ntmps11
  go_wp2_with (go_at_call 29; ((with_reducible refine (ht w1 x1).mono ?_); rintro e u2 ⟨⟨OA, on, oc, DA, dn, dc, rfl, -, -, -, hB2⟩⟩); (obtain ⟨w2, hw2⟩ : ∃ W, u2.alloc (.cells #[.int .u16 (s).src, .int .u16 (s).dst, .int .u32 (s).seq, .int .u32 (s).ack, .int .u8 (s).flags, .int .u16 (s).win, .int .u16 (s).urg, .slice OA on oc, .slice DA dn dc] 42) = W := ⟨_, rfl⟩); have V2 : Below u2.heap.size u2 w2 := (by rw [← hw2]; (repeat (first | with_reducible exact Below.refl _ _ | with_reducible refine below_drew ?_ | with_reducible refine below_drewN ?_ _ | with_reducible refine below_alloc ?_ (Nat.le_refl _) _ | with_reducible refine Below.setCell ?_ (by first | exact Nat.le_refl _ | (simp only []; omega)) _ | with_reducible assumption))); (obtain ⟨kS2, hkS2⟩ : ∃ k : Nat, u2.heap.size = k := ⟨_, rfl⟩); have S2 : Blk w2 kS2 #[.int .u16 (s).src, .int .u16 (s).dst, .int .u32 (s).seq, .int .u32 (s).ack, .int .u8 (s).flags, .int .u16 (s).win, .int .u16 (s).urg, .slice OA on oc, .slice DA dn dc] 42 := (by rw [← hw2]; exact blk_new u2 _ _ _ hkS2); have Sc2 := S2.cell; have T2 := below_then hB2 V2; have P2 := P1.below T2; have Pc2 := P2.cell; clear Pc1; have Z2 := Z1.below T2; have Zc2 := Z2.cell; clear Zc1; have X2 := X1.below T2; have Xc2 := X2.cell; clear Xc1; have x2 := x1.below T2; have R2 := below_then R1 T2)
  have Xs := X2.set_ 3 (.int .u16 s.src)
  simp only [List.setIfInBounds_toArray, List.set_cons_zero, List.set_cons_succ] at Xs
  have Xsc := Xs.cell
  have hSl := X1.lt
  have hSg : w1.heap.size ≤ kS2 := by rw [← hkS2]; exact hB2.size
  have Ssc := (S2.far ⟨k + 1 + 1, 3, none⟩ (by show k + 1 + 1 ≠ kS2; omega) (.int .u16 s.src)).cell
  obtain ⟨w3, hw3, S3⟩ : ∃ wf, ((w2.setCell ⟨k + 1 + 1, 3, none⟩ (.int .u16 s.src)).setCell ⟨k + 1 + 1, 4, none⟩ (.int .u16 s.dst)).drew = wf ∧ Sto w2 (k + 1 + 1) wf #[.int .u8 p.proto, .int .u32 p.src, .int .u32 p.dst, .int .u16 s.src, .int .u16 s.dst] 28 := ⟨_, rfl, by
    have := (((Sto.nil X2).set 3 (.int .u16 s.src)).set 4 (.int .u16 s.dst)).drew
    simp only [List.setIfInBounds_toArray, List.set_cons_zero, List.set_cons_succ] at this
    exact this⟩
  go_region
  clear Xsc Ssc Xs
  have X3 := S3.blk
  have Xc3 := X3.cell
  have Z3 := S3.other (by omega) Z2
  have Zc3 := Z3.cell
  have R3 := S3.bel R2 (by omega)
  go_wp2_with fail
  obtain ⟨wf, hwf, Sf⟩ := store5 Z3 (.int .u8 p.proto) (.int .u32 p.src) (.int .u32 p.dst) (.int .u16 s.src) (.int .u16 s.dst)
  rw [hwf]
  have pf := Sf.blk.cell
  exact bodyPost_ret (v := .tuple #[(.agg #[.int .u8 ((⟨p.proto, p.src, p.dst, s.src, s.dst⟩ : Tup)).proto, .int .u32 ((⟨p.proto, p.src, p.dst, s.src, s.dst⟩ : Tup)).src, .int .u32 ((⟨p.proto, p.src, p.dst, s.src, s.dst⟩ : Tup)).dst, .int .u16 ((⟨p.proto, p.src, p.dst, s.src, s.dst⟩ : Tup)).sp, .int .u16 ((⟨p.proto, p.src, p.dst, s.src, s.dst⟩ : Tup)).dp]), .int .i64 0]) (by simp [results, Try.results11, go_sem, pf, zT]) rfl ⟨⟨rfl, Sf.bel R3 (by omega)⟩⟩

theorem rof_udp_ (p : Pkt) (A1 : Option Addr) (n1 c1 : Nat) (A2 : Option Addr) (n2 c2 : Nat) (w : World) (k2 : Bs w A2 n2 c2 p.dat) (hpr : p.proto = 17) (s : Dgm) (E : Int)
    (ht : ∀ W, Bs W A2 n2 c2 p.dat → Calls Try.prog 30 #[(.agg #[.int .u8 (p).tos, .int .u16 (p).id, .bool (p).keep, .int .u8 (p).ttl, .int .u8 (p).proto, .int .u32 (p).src, .int .u32 (p).dst, .slice A1 n1 c1, .slice A2 n2 c2])] W (DgPost W s E)) :
    Calls Try.prog 11 #[(.agg #[.int .u8 (p).tos, .int .u16 (p).id, .bool (p).keep, .int .u8 (p).ttl, .int .u8 (p).proto, .int .u32 (p).src, .int .u32 (p).dst, .slice A1 n1 c1, .slice A2 n2 c2])] w (TtPost w (tuP p s.src s.dst E) E) := by
  have hn6 : (p.proto == 6) = false := by rw [hpr]; rfl
  have y17 : (p.proto == 17) = true := by rw [hpr]; rfl
  clear hpr
  obtain ⟨k, hk⟩ : ∃ k : Nat, w.heap.size = k := ⟨_, rfl⟩
  obtain ⟨w1, hw1⟩ : ∃ W, (((w.alloc (.cells #[.int .u8 (p).tos, .int .u16 (p).id, .bool (p).keep, .int .u8 (p).ttl, .int .u8 (p).proto, .int .u32 (p).src, .int .u32 (p).dst, .slice A1 n1 c1, .slice A2 n2 c2] 26)).alloc (.cells #[.int .u8 0, .int .u32 0, .int .u32 0, .int .u16 0, .int .u16 0] 28)).alloc (.cells #[.int .u8 p.proto, .int .u32 p.src, .int .u32 p.dst, .int .u16 0, .int .u16 0] 28)) = W := ⟨_, rfl⟩
  have P1 : Blk w1 k #[.int .u8 (p).tos, .int .u16 (p).id, .bool (p).keep, .int .u8 (p).ttl, .int .u8 (p).proto, .int .u32 (p).src, .int .u32 (p).dst, .slice A1 n1 c1, .slice A2 n2 c2] 26 := by rw [← hw1]; exact (((blk_new _ _ _ k (by simp [hk])).alloc _).alloc _)
  have Z1 : Blk w1 (k + 1) #[.int .u8 0, .int .u32 0, .int .u32 0, .int .u16 0, .int .u16 0] 28 := by rw [← hw1]; exact ((blk_new _ _ _ (k + 1) (by simp [hk])).alloc _)
  have X1 : Blk w1 (k + 1 + 1) #[.int .u8 p.proto, .int .u32 p.src, .int .u32 p.dst, .int .u16 0, .int .u16 0] 28 := by rw [← hw1]; exact (blk_new _ _ _ (k + 1 + 1) (by simp [hk]))
  have R1 : Below w.heap.size w w1 := by rw [← hw1]; (repeat (first | with_reducible exact Below.refl _ _ | with_reducible refine below_drew ?_ | with_reducible refine below_drewN ?_ _ | with_reducible refine below_alloc ?_ (Nat.le_refl _) _ | with_reducible refine Below.setCell ?_ (by first | exact Nat.le_refl _ | (simp only []; omega)) _ | with_reducible assumption))
  have Pc1 := P1.cell
  have Zc1 := Z1.cell
  have Xc1 := X1.cell
  have Pl1 := P1.lt
  have Zl1 := Z1.lt
  have Xl1 := X1.lt
  have x1 := (k2).below R1
  have i3 : w1.setCell ⟨k + 1 + 1, 3, none⟩ (.int .u16 0) = w1 := X1.idle rfl
  have i4 : w1.setCell ⟨k + 1 + 1, 4, none⟩ (.int .u16 0) = w1 := X1.idle rfl
  by_cases h0 : E = 0
  case neg =>
    have h0b : (E != 0) = true := by simpa using h0
    have hz : tuP p s.src s.dst E = zT := by unfold tuP; rw [if_pos h0]
    rw [hz]
    clear h0 hz
    go_enter Try.func11, Try.ntmps11
    go_wp2_with (go_at_call 30; ((with_reducible refine (ht w1 x1).mono ?_); rintro e u2 ⟨⟨DA, dn, dc, rfl, -, hB2⟩⟩); (obtain ⟨w2, hw2⟩ : ∃ W, u2.alloc (.cells #[.int .u16 (s).src, .int .u16 (s).dst, .bool (s).bare, .slice DA dn dc] 45) = W := ⟨_, rfl⟩); have V2 : Below u2.heap.size u2 w2 := (by rw [← hw2]; (repeat (first | with_reducible exact Below.refl _ _ | with_reducible refine below_drew ?_ | with_reducible refine below_drewN ?_ _ | with_reducible refine below_alloc ?_ (Nat.le_refl _) _ | with_reducible refine Below.setCell ?_ (by first | exact Nat.le_refl _ | (simp only []; omega)) _ | with_reducible assumption))); (obtain ⟨kS2, hkS2⟩ : ∃ k : Nat, u2.heap.size = k := ⟨_, rfl⟩); have S2 : Blk w2 kS2 #[.int .u16 (s).src, .int .u16 (s).dst, .bool (s).bare, .slice DA dn dc] 45 := (by rw [← hw2]; exact blk_new u2 _ _ _ hkS2); have Sc2 := S2.cell; have T2 := below_then hB2 V2; have P2 := P1.below T2; have Pc2 := P2.cell; clear Pc1; have Z2 := Z1.below T2; have Zc2 := Z2.cell; clear Zc1; have X2 := X1.below T2; have Xc2 := X2.cell; clear Xc1; have x2 := x1.below T2; have R2 := below_then R1 T2)
    obtain ⟨wf, hwf, Sf⟩ := store5 Z2 (.int .u8 0) (.int .u32 0) (.int .u32 0) (.int .u16 0) (.int .u16 0)
    rw [hwf]
    have pf := Sf.blk.cell
    exact bodyPost_ret (v := .tuple #[(.agg #[.int .u8 (zT).proto, .int .u32 (zT).src, .int .u32 (zT).dst, .int .u16 (zT).sp, .int .u16 (zT).dp]), .int .i64 E]) (by simp [results, Try.results11, go_sem, pf, zT]) rfl ⟨⟨rfl, Sf.bel R2 (by omega)⟩⟩

  subst h0
  have hok : tuP p s.src s.dst 0 = ⟨p.proto, p.src, p.dst, s.src, s.dst⟩ := by unfold tuP; rw [if_neg (by simp)]
  rw [hok]
  clear hok
  go_enter Try.func11, Try.ntmps11
  go_wp2_with (go_at_call 30; ((with_reducible refine (ht w1 x1).mono ?_); rintro e u2 ⟨⟨DA, dn, dc, rfl, -, hB2⟩⟩); (obtain ⟨w2, hw2⟩ : ∃ W, u2.alloc (.cells #[.int .u16 (s).src, .int .u16 (s).dst, .bool (s).bare, .slice DA dn dc] 45) = W := ⟨_, rfl⟩); have V2 : Below u2.heap.size u2 w2 := (by rw [← hw2]; (repeat (first | with_reducible exact Below.refl _ _ | with_reducible refine below_drew ?_ | with_reducible refine below_drewN ?_ _ | with_reducible refine below_alloc ?_ (Nat.le_refl _) _ | with_reducible refine Below.setCell ?_ (by first | exact Nat.le_refl _ | (simp only []; omega)) _ | with_reducible assumption))); (obtain ⟨kS2, hkS2⟩ : ∃ k : Nat, u2.heap.size = k := ⟨_, rfl⟩); have S2 : Blk w2 kS2 #[.int .u16 (s).src, .int .u16 (s).dst, .bool (s).bare, .slice DA dn dc] 45 := (by rw [← hw2]; exact blk_new u2 _ _ _ hkS2); have Sc2 := S2.cell; have T2 := below_then hB2 V2; have P2 := P1.below T2; have Pc2 := P2.cell; clear Pc1; have Z2 := Z1.below T2; have Zc2 := Z2.cell; clear Zc1; have X2 := X1.below T2; have Xc2 := X2.cell; clear Xc1; have x2 := x1.below T2; have R2 := below_then R1 T2)
  have Xs := X2.set_ 3 (.int .u16 s.src)
  simp only [List.setIfInBounds_toArray, List.set_cons_zero, List.set_cons_succ] at Xs
  have Xsc := Xs.cell
  have hSl := X1.lt
  have hSg : w1.heap.size ≤ kS2 := by rw [← hkS2]; exact hB2.size
  have Ssc := (S2.far ⟨k + 1 + 1, 3, none⟩ (by show k + 1 + 1 ≠ kS2; omega) (.int .u16 s.src)).cell
  obtain ⟨w3, hw3, S3⟩ : ∃ wf, ((w2.setCell ⟨k + 1 + 1, 3, none⟩ (.int .u16 s.src)).setCell ⟨k + 1 + 1, 4, none⟩ (.int .u16 s.dst)).drew = wf ∧ Sto w2 (k + 1 + 1) wf #[.int .u8 p.proto, .int .u32 p.src, .int .u32 p.dst, .int .u16 s.src, .int .u16 s.dst] 28 := ⟨_, rfl, by
    have := (((Sto.nil X2).set 3 (.int .u16 s.src)).set 4 (.int .u16 s.dst)).drew
    simp only [List.setIfInBounds_toArray, List.set_cons_zero, List.set_cons_succ] at this
    exact this⟩
  go_region
  clear Xsc Ssc Xs
  have X3 := S3.blk
  have Xc3 := X3.cell
  have Z3 := S3.other (by omega) Z2
  have Zc3 := Z3.cell
  have R3 := S3.bel R2 (by omega)
  go_wp2_with fail
  obtain ⟨wf, hwf, Sf⟩ := store5 Z3 (.int .u8 p.proto) (.int .u32 p.src) (.int .u32 p.dst) (.int .u16 s.src) (.int .u16 s.dst)
  rw [hwf]
  have pf := Sf.blk.cell
  exact bodyPost_ret (v := .tuple #[(.agg #[.int .u8 ((⟨p.proto, p.src, p.dst, s.src, s.dst⟩ : Tup)).proto, .int .u32 ((⟨p.proto, p.src, p.dst, s.src, s.dst⟩ : Tup)).src, .int .u32 ((⟨p.proto, p.src, p.dst, s.src, s.dst⟩ : Tup)).dst, .int .u16 ((⟨p.proto, p.src, p.dst, s.src, s.dst⟩ : Tup)).sp, .int .u16 ((⟨p.proto, p.src, p.dst, s.src, s.dst⟩ : Tup)).dp]), .int .i64 0]) (by simp [results, Try.results11, go_sem, pf, zT]) rfl ⟨⟨rfl, Sf.bel R3 (by omega)⟩⟩

theorem rof_gre_ (p : Pkt) (A1 : Option Addr) (n1 c1 : Nat) (A2 : Option Addr) (n2 c2 : Nat) (w : World) (k2 : Bs w A2 n2 c2 p.dat) (hpr : p.proto = 47) (s : Frm) (E : Int)
    (ht : ∀ W, Bs W A2 n2 c2 p.dat → Calls Try.prog 32 #[(.agg #[.int .u8 (p).tos, .int .u16 (p).id, .bool (p).keep, .int .u8 (p).ttl, .int .u8 (p).proto, .int .u32 (p).src, .int .u32 (p).dst, .slice A1 n1 c1, .slice A2 n2 c2])] W (FrPost W s E)) :
    Calls Try.prog 11 #[(.agg #[.int .u8 (p).tos, .int .u16 (p).id, .bool (p).keep, .int .u8 (p).ttl, .int .u8 (p).proto, .int .u32 (p).src, .int .u32 (p).dst, .slice A1 n1 c1, .slice A2 n2 c2])] w (TtPost w (tuP p 0 s.call E) E) := by
  have hn6 : (p.proto == 6) = false := by rw [hpr]; rfl
  have hn17 : (p.proto == 17) = false := by rw [hpr]; rfl
  have hn1 : (p.proto == 1) = false := by rw [hpr]; rfl
  have y47 : (p.proto == 47) = true := by rw [hpr]; rfl
  clear hpr
  obtain ⟨k, hk⟩ : ∃ k : Nat, w.heap.size = k := ⟨_, rfl⟩
  obtain ⟨w1, hw1⟩ : ∃ W, (((w.alloc (.cells #[.int .u8 (p).tos, .int .u16 (p).id, .bool (p).keep, .int .u8 (p).ttl, .int .u8 (p).proto, .int .u32 (p).src, .int .u32 (p).dst, .slice A1 n1 c1, .slice A2 n2 c2] 26)).alloc (.cells #[.int .u8 0, .int .u32 0, .int .u32 0, .int .u16 0, .int .u16 0] 28)).alloc (.cells #[.int .u8 p.proto, .int .u32 p.src, .int .u32 p.dst, .int .u16 0, .int .u16 0] 28)) = W := ⟨_, rfl⟩
  have P1 : Blk w1 k #[.int .u8 (p).tos, .int .u16 (p).id, .bool (p).keep, .int .u8 (p).ttl, .int .u8 (p).proto, .int .u32 (p).src, .int .u32 (p).dst, .slice A1 n1 c1, .slice A2 n2 c2] 26 := by rw [← hw1]; exact (((blk_new _ _ _ k (by simp [hk])).alloc _).alloc _)
  have Z1 : Blk w1 (k + 1) #[.int .u8 0, .int .u32 0, .int .u32 0, .int .u16 0, .int .u16 0] 28 := by rw [← hw1]; exact ((blk_new _ _ _ (k + 1) (by simp [hk])).alloc _)
  have X1 : Blk w1 (k + 1 + 1) #[.int .u8 p.proto, .int .u32 p.src, .int .u32 p.dst, .int .u16 0, .int .u16 0] 28 := by rw [← hw1]; exact (blk_new _ _ _ (k + 1 + 1) (by simp [hk]))
  have R1 : Below w.heap.size w w1 := by rw [← hw1]; (repeat (first | with_reducible exact Below.refl _ _ | with_reducible refine below_drew ?_ | with_reducible refine below_drewN ?_ _ | with_reducible refine below_alloc ?_ (Nat.le_refl _) _ | with_reducible refine Below.setCell ?_ (by first | exact Nat.le_refl _ | (simp only []; omega)) _ | with_reducible assumption))
  have Pc1 := P1.cell
  have Zc1 := Z1.cell
  have Xc1 := X1.cell
  have Pl1 := P1.lt
  have Zl1 := Z1.lt
  have Xl1 := X1.lt
  have x1 := (k2).below R1
  have i3 : w1.setCell ⟨k + 1 + 1, 3, none⟩ (.int .u16 0) = w1 := X1.idle rfl
  have i4 : w1.setCell ⟨k + 1 + 1, 4, none⟩ (.int .u16 0) = w1 := X1.idle rfl
  by_cases h0 : E = 0
  case neg =>
    have h0b : (E != 0) = true := by simpa using h0
    have hz : tuP p 0 s.call E = zT := by unfold tuP; rw [if_pos h0]
    rw [hz]
    clear h0 hz
    go_enter Try.func11, Try.ntmps11
    go_wp2_with (go_at_call 32; ((with_reducible refine (ht w1 x1).mono ?_); rintro e u2 ⟨⟨DA, dn, dc, rfl, -, hB2⟩⟩); (obtain ⟨w2, hw2⟩ : ∃ W, u2.alloc (.cells #[.int .u16 (s).call, .bool (s).hs, .bool (s).ha, .int .u32 (s).seq, .int .u32 (s).ack, .slice DA dn dc] 52) = W := ⟨_, rfl⟩); have V2 : Below u2.heap.size u2 w2 := (by rw [← hw2]; (repeat (first | with_reducible exact Below.refl _ _ | with_reducible refine below_drew ?_ | with_reducible refine below_drewN ?_ _ | with_reducible refine below_alloc ?_ (Nat.le_refl _) _ | with_reducible refine Below.setCell ?_ (by first | exact Nat.le_refl _ | (simp only []; omega)) _ | with_reducible assumption))); (obtain ⟨kS2, hkS2⟩ : ∃ k : Nat, u2.heap.size = k := ⟨_, rfl⟩); have S2 : Blk w2 kS2 #[.int .u16 (s).call, .bool (s).hs, .bool (s).ha, .int .u32 (s).seq, .int .u32 (s).ack, .slice DA dn dc] 52 := (by rw [← hw2]; exact blk_new u2 _ _ _ hkS2); have Sc2 := S2.cell; have T2 := below_then hB2 V2; have P2 := P1.below T2; have Pc2 := P2.cell; clear Pc1; have Z2 := Z1.below T2; have Zc2 := Z2.cell; clear Zc1; have X2 := X1.below T2; have Xc2 := X2.cell; clear Xc1; have x2 := x1.below T2; have R2 := below_then R1 T2)
    obtain ⟨wf, hwf, Sf⟩ := store5 Z2 (.int .u8 0) (.int .u32 0) (.int .u32 0) (.int .u16 0) (.int .u16 0)
    rw [hwf]
    have pf := Sf.blk.cell
    exact bodyPost_ret (v := .tuple #[(.agg #[.int .u8 (zT).proto, .int .u32 (zT).src, .int .u32 (zT).dst, .int .u16 (zT).sp, .int .u16 (zT).dp]), .int .i64 E]) (by simp [results, Try.results11, go_sem, pf, zT]) rfl ⟨⟨rfl, Sf.bel R2 (by omega)⟩⟩

  subst h0
  have hok : tuP p 0 s.call 0 = ⟨p.proto, p.src, p.dst, 0, s.call⟩ := by unfold tuP; rw [if_neg (by simp)]
  rw [hok]
  clear hok
  go_enter Try.func11, Try.ntmps11
  go_wp2_with (go_at_call 32; ((with_reducible refine (ht w1 x1).mono ?_); rintro e u2 ⟨⟨DA, dn, dc, rfl, -, hB2⟩⟩); (obtain ⟨w2, hw2⟩ : ∃ W, u2.alloc (.cells #[.int .u16 (s).call, .bool (s).hs, .bool (s).ha, .int .u32 (s).seq, .int .u32 (s).ack, .slice DA dn dc] 52) = W := ⟨_, rfl⟩); have V2 : Below u2.heap.size u2 w2 := (by rw [← hw2]; (repeat (first | with_reducible exact Below.refl _ _ | with_reducible refine below_drew ?_ | with_reducible refine below_drewN ?_ _ | with_reducible refine below_alloc ?_ (Nat.le_refl _) _ | with_reducible refine Below.setCell ?_ (by first | exact Nat.le_refl _ | (simp only []; omega)) _ | with_reducible assumption))); (obtain ⟨kS2, hkS2⟩ : ∃ k : Nat, u2.heap.size = k := ⟨_, rfl⟩); have S2 : Blk w2 kS2 #[.int .u16 (s).call, .bool (s).hs, .bool (s).ha, .int .u32 (s).seq, .int .u32 (s).ack, .slice DA dn dc] 52 := (by rw [← hw2]; exact blk_new u2 _ _ _ hkS2); have Sc2 := S2.cell; have T2 := below_then hB2 V2; have P2 := P1.below T2; have Pc2 := P2.cell; clear Pc1; have Z2 := Z1.below T2; have Zc2 := Z2.cell; clear Zc1; have X2 := X1.below T2; have Xc2 := X2.cell; clear Xc1; have x2 := x1.below T2; have R2 := below_then R1 T2; (obtain ⟨w3, hw3, S3⟩ := store4_ X2 (.int .u16 s.call)); have X3 := S3.blk; have Xc3 := X3.cell; have Z3 := S3.other (by omega) Z2; have Zc3 := Z3.cell; have R3 := S3.bel R2 (by omega))
  obtain ⟨wf, hwf, Sf⟩ := store5 Z3 (.int .u8 p.proto) (.int .u32 p.src) (.int .u32 p.dst) (.int .u16 0) (.int .u16 s.call)
  rw [hwf]
  have pf := Sf.blk.cell
  exact bodyPost_ret (v := .tuple #[(.agg #[.int .u8 ((⟨p.proto, p.src, p.dst, 0, s.call⟩ : Tup)).proto, .int .u32 ((⟨p.proto, p.src, p.dst, 0, s.call⟩ : Tup)).src, .int .u32 ((⟨p.proto, p.src, p.dst, 0, s.call⟩ : Tup)).dst, .int .u16 ((⟨p.proto, p.src, p.dst, 0, s.call⟩ : Tup)).sp, .int .u16 ((⟨p.proto, p.src, p.dst, 0, s.call⟩ : Tup)).dp]), .int .i64 0]) (by simp [results, Try.results11, go_sem, pf, zT]) rfl ⟨⟨rfl, Sf.bel R3 (by omega)⟩⟩

theorem rof_icmp_ (p : Pkt) (A1 : Option Addr) (n1 c1 : Nat) (A2 : Option Addr) (n2 c2 : Nat) (w : World) (k2 : Bs w A2 n2 c2 p.dat) (hpr : p.proto = 1) (s : Msg) (hs : s.Ok) (E : Int)
    (ht : ∀ W, Bs W A2 n2 c2 p.dat → Calls Try.prog 31 #[(.agg #[.int .u8 (p).tos, .int .u16 (p).id, .bool (p).keep, .int .u8 (p).ttl, .int .u8 (p).proto, .int .u32 (p).src, .int .u32 (p).dst, .slice A1 n1 c1, .slice A2 n2 c2])] W (MsPost W s E)) :
    Calls Try.prog 11 #[(.agg #[.int .u8 (p).tos, .int .u16 (p).id, .bool (p).keep, .int .u8 (p).ttl, .int .u8 (p).proto, .int .u32 (p).src, .int .u32 (p).dst, .slice A1 n1 c1, .slice A2 n2 c2])] w (TtPost w (tuP p (s.rest / 65536) (s.rest / 65536) (picE E s)) (picE E s)) := by
  have n6 : (p.proto == 6) = false := by rw [hpr]; rfl
  have n17 : (p.proto == 17) = false := by rw [hpr]; rfl
  have y1 : (p.proto == 1) = true := by rw [hpr]; rfl
  clear hpr
  obtain ⟨r0, r1⟩ := hs.rest
  have hc := fun B b1 b2 W => risecho_any s B b1 b2 W
  obtain ⟨q, hq⟩ : ∃ q, s.rest / 65536 = q := ⟨_, rfl⟩
  have hq0 : 0 ≤ q ∧ q ≤ 65535 := by omega
  have hq1 : q % 65536 = q := by omega
  rw [hq]
  obtain ⟨b, hb⟩ : ∃ b, isEchoM s = b := ⟨_, rfl⟩
  have HE : Hid (picE E s = if E = 0 ∧ b = false then 12 else E) := by unfold Hid picE; rw [hb]
  rw [hb] at hc
  rw [HE.out]
  clear hb hs HE
  obtain ⟨k, hk⟩ : ∃ k : Nat, w.heap.size = k := ⟨_, rfl⟩
  obtain ⟨w1, hw1⟩ : ∃ W, (((w.alloc (.cells #[.int .u8 (p).tos, .int .u16 (p).id, .bool (p).keep, .int .u8 (p).ttl, .int .u8 (p).proto, .int .u32 (p).src, .int .u32 (p).dst, .slice A1 n1 c1, .slice A2 n2 c2] 26)).alloc (.cells #[.int .u8 0, .int .u32 0, .int .u32 0, .int .u16 0, .int .u16 0] 28)).alloc (.cells #[.int .u8 p.proto, .int .u32 p.src, .int .u32 p.dst, .int .u16 0, .int .u16 0] 28)) = W := ⟨_, rfl⟩
  have P1 : Blk w1 k #[.int .u8 (p).tos, .int .u16 (p).id, .bool (p).keep, .int .u8 (p).ttl, .int .u8 (p).proto, .int .u32 (p).src, .int .u32 (p).dst, .slice A1 n1 c1, .slice A2 n2 c2] 26 := by rw [← hw1]; exact (((blk_new _ _ _ k (by simp [hk])).alloc _).alloc _)
  have Z1 : Blk w1 (k + 1) #[.int .u8 0, .int .u32 0, .int .u32 0, .int .u16 0, .int .u16 0] 28 := by rw [← hw1]; exact ((blk_new _ _ _ (k + 1) (by simp [hk])).alloc _)
  have X1 : Blk w1 (k + 1 + 1) #[.int .u8 p.proto, .int .u32 p.src, .int .u32 p.dst, .int .u16 0, .int .u16 0] 28 := by rw [← hw1]; exact (blk_new _ _ _ (k + 1 + 1) (by simp [hk]))
  have R1 : Below w.heap.size w w1 := by rw [← hw1]; (repeat (first | with_reducible exact Below.refl _ _ | with_reducible refine below_drew ?_ | with_reducible refine below_drewN ?_ _ | with_reducible refine below_alloc ?_ (Nat.le_refl _) _ | with_reducible refine Below.setCell ?_ (by first | exact Nat.le_refl _ | (simp only []; omega)) _ | with_reducible assumption))
  have Pc1 := P1.cell
  have Zc1 := Z1.cell
  have Xc1 := X1.cell
  have Pl1 := P1.lt
  have Zl1 := Z1.lt
  have Xl1 := X1.lt
  have x1 := (k2).below R1
  have i3 : w1.setCell ⟨k + 1 + 1, 3, none⟩ (.int .u16 0) = w1 := X1.idle rfl
  have i4 : w1.setCell ⟨k + 1 + 1, 4, none⟩ (.int .u16 0) = w1 := X1.idle rfl
  by_cases h0 : E = 0
  case neg =>
    have h0b : (E != 0) = true := by simpa using h0
    have hz : tuP p q q E = zT := by unfold tuP; rw [if_pos h0]
    rw [if_neg (by simp [h0]), hz]
    clear h0 hz
    go_enter Try.func11, Try.ntmps11
    go_wp2_with (go_at_call 31; ((with_reducible refine (ht w1 x1).mono ?_); rintro e u2 ⟨⟨DA, dn, dc, rfl, -, hB2⟩⟩); (obtain ⟨w2, hw2⟩ : ∃ W, u2.alloc (.cells #[.int .u8 (s).ty, .int .u8 (s).code, .int .u32 (s).rest, .slice DA dn dc] 49) = W := ⟨_, rfl⟩); have V2 : Below u2.heap.size u2 w2 := (by rw [← hw2]; (repeat (first | with_reducible exact Below.refl _ _ | with_reducible refine below_drew ?_ | with_reducible refine below_drewN ?_ _ | with_reducible refine below_alloc ?_ (Nat.le_refl _) _ | with_reducible refine Below.setCell ?_ (by first | exact Nat.le_refl _ | (simp only []; omega)) _ | with_reducible assumption))); (obtain ⟨kS2, hkS2⟩ : ∃ k : Nat, u2.heap.size = k := ⟨_, rfl⟩); have S2 : Blk w2 kS2 #[.int .u8 (s).ty, .int .u8 (s).code, .int .u32 (s).rest, .slice DA dn dc] 49 := (by rw [← hw2]; exact blk_new u2 _ _ _ hkS2); have Sc2 := S2.cell; have T2 := below_then hB2 V2; have P2 := P1.below T2; have Pc2 := P2.cell; clear Pc1; have Z2 := Z1.below T2; have Zc2 := Z2.cell; clear Zc1; have X2 := X1.below T2; have Xc2 := X2.cell; clear Xc1; have x2 := x1.below T2; have R2 := below_then R1 T2)
    obtain ⟨wf, hwf, Sf⟩ := store5 Z2 (.int .u8 0) (.int .u32 0) (.int .u32 0) (.int .u16 0) (.int .u16 0)
    rw [hwf]
    have pf := Sf.blk.cell
    exact bodyPost_ret (v := .tuple #[(.agg #[.int .u8 (zT).proto, .int .u32 (zT).src, .int .u32 (zT).dst, .int .u16 (zT).sp, .int .u16 (zT).dp]), .int .i64 E]) (by simp [results, Try.results11, go_sem, pf, zT]) rfl ⟨⟨rfl, Sf.bel R2 (by omega)⟩⟩

  subst h0
  cases b
  · rw [if_pos ⟨rfl, rfl⟩]
    have hz : tuP p q q 12 = zT := by unfold tuP; rw [if_pos (by decide)]
    rw [hz]
    clear hz
    go_enter Try.func11, Try.ntmps11
    go_wp2_with (first
      | (go_at_call 31; ((with_reducible refine (ht w1 x1).mono ?_); rintro e u2 ⟨⟨DA, dn, dc, rfl, -, hB2⟩⟩); (obtain ⟨w2, hw2⟩ : ∃ W, u2.alloc (.cells #[.int .u8 (s).ty, .int .u8 (s).code, .int .u32 (s).rest, .slice DA dn dc] 49) = W := ⟨_, rfl⟩); have V2 : Below u2.heap.size u2 w2 := (by rw [← hw2]; (repeat (first | with_reducible exact Below.refl _ _ | with_reducible refine below_drew ?_ | with_reducible refine below_drewN ?_ _ | with_reducible refine below_alloc ?_ (Nat.le_refl _) _ | with_reducible refine Below.setCell ?_ (by first | exact Nat.le_refl _ | (simp only []; omega)) _ | with_reducible assumption))); (obtain ⟨kS2, hkS2⟩ : ∃ k : Nat, u2.heap.size = k := ⟨_, rfl⟩); have S2 : Blk w2 kS2 #[.int .u8 (s).ty, .int .u8 (s).code, .int .u32 (s).rest, .slice DA dn dc] 49 := (by rw [← hw2]; exact blk_new u2 _ _ _ hkS2); have Sc2 := S2.cell; have T2 := below_then hB2 V2; have P2 := P1.below T2; have Pc2 := P2.cell; clear Pc1; have Z2 := Z1.below T2; have Zc2 := Z2.cell; clear Zc1; have X2 := X1.below T2; have Xc2 := X2.cell; clear Xc1; have x2 := x1.below T2; have R2 := below_then R1 T2)
      | (go_at_call 23; ((with_reducible refine (hc DA dn dc w2).mono ?_); rintro e w3 ⟨rfl, hB3⟩); have P3 := P2.below hB3; have Pc3 := P3.cell; clear Pc2; have Z3 := Z2.below hB3; have Zc3 := Z3.cell; clear Zc2; have X3 := X2.below hB3; have Xc3 := X3.cell; clear Xc2; have S3 := S2.below hB3; have Sc3 := S3.cell; clear Sc2; have x3 := x2.below hB3; have R3 := below_then R2 hB3))
    obtain ⟨wf, hwf, Sf⟩ := store5 Z3 (.int .u8 0) (.int .u32 0) (.int .u32 0) (.int .u16 0) (.int .u16 0)
    rw [hwf]
    have pf := Sf.blk.cell
    exact bodyPost_ret (v := .tuple #[(.agg #[.int .u8 (zT).proto, .int .u32 (zT).src, .int .u32 (zT).dst, .int .u16 (zT).sp, .int .u16 (zT).dp]), .int .i64 12]) (by simp [results, Try.results11, go_sem, pf, zT]) rfl ⟨⟨rfl, Sf.bel R3 (by omega)⟩⟩

  · have hok : tuP p q q 0 = ⟨p.proto, p.src, p.dst, q, q⟩ := by unfold tuP; rw [if_neg (by simp)]
    rw [if_neg (by simp), hok]
    clear hok
    go_enter Try.func11, Try.ntmps11
    go_wp2_with (first
      | (go_at_call 31; ((with_reducible refine (ht w1 x1).mono ?_); rintro e u2 ⟨⟨DA, dn, dc, rfl, -, hB2⟩⟩); (obtain ⟨w2, hw2⟩ : ∃ W, u2.alloc (.cells #[.int .u8 (s).ty, .int .u8 (s).code, .int .u32 (s).rest, .slice DA dn dc] 49) = W := ⟨_, rfl⟩); have V2 : Below u2.heap.size u2 w2 := (by rw [← hw2]; (repeat (first | with_reducible exact Below.refl _ _ | with_reducible refine below_drew ?_ | with_reducible refine below_drewN ?_ _ | with_reducible refine below_alloc ?_ (Nat.le_refl _) _ | with_reducible refine Below.setCell ?_ (by first | exact Nat.le_refl _ | (simp only []; omega)) _ | with_reducible assumption))); (obtain ⟨kS2, hkS2⟩ : ∃ k : Nat, u2.heap.size = k := ⟨_, rfl⟩); have S2 : Blk w2 kS2 #[.int .u8 (s).ty, .int .u8 (s).code, .int .u32 (s).rest, .slice DA dn dc] 49 := (by rw [← hw2]; exact blk_new u2 _ _ _ hkS2); have Sc2 := S2.cell; have T2 := below_then hB2 V2; have P2 := P1.below T2; have Pc2 := P2.cell; clear Pc1; have Z2 := Z1.below T2; have Zc2 := Z2.cell; clear Zc1; have X2 := X1.below T2; have Xc2 := X2.cell; clear Xc1; have x2 := x1.below T2; have R2 := below_then R1 T2)
      | (go_at_call 23; ((with_reducible refine (hc DA dn dc w2).mono ?_); rintro e w3 ⟨rfl, hB3⟩); have P3 := P2.below hB3; have Pc3 := P3.cell; clear Pc2; have Z3 := Z2.below hB3; have Zc3 := Z3.cell; clear Zc2; have X3 := X2.below hB3; have Xc3 := X3.cell; clear Xc2; have S3 := S2.below hB3; have Sc3 := S3.cell; clear Sc2; have x3 := x2.below hB3; have R3 := below_then R2 hB3; (obtain ⟨w4, hw4, S4⟩ := store34 X3 (.int .u16 q) (.int .u16 q)); have X4 := S4.blk; have Xc4 := X4.cell; have Z4 := S4.other (by omega) Z3; have Zc4 := Z4.cell; have R4 := S4.bel R3 (by omega); have Xc5 := (X3.set_ 3 (.int .u16 q)).cell))
    obtain ⟨wf, hwf, Sf⟩ := store5 Z4 (.int .u8 p.proto) (.int .u32 p.src) (.int .u32 p.dst) (.int .u16 q) (.int .u16 q)
    rw [hwf]
    have pf := Sf.blk.cell
    exact bodyPost_ret (v := .tuple #[(.agg #[.int .u8 ((⟨p.proto, p.src, p.dst, q, q⟩ : Tup)).proto, .int .u32 ((⟨p.proto, p.src, p.dst, q, q⟩ : Tup)).src, .int .u32 ((⟨p.proto, p.src, p.dst, q, q⟩ : Tup)).dst, .int .u16 ((⟨p.proto, p.src, p.dst, q, q⟩ : Tup)).sp, .int .u16 ((⟨p.proto, p.src, p.dst, q, q⟩ : Tup)).dp]), .int .i64 0]) (by simp [results, Try.results11, go_sem, pf, zT]) rfl ⟨⟨rfl, Sf.bel R4 (by omega)⟩⟩

theorem rof_no (p : Pkt) (A1 : Option Addr) (n1 c1 : Nat) (A2 : Option Addr) (n2 c2 : Nat) (w : World) (h6 : p.proto ≠ 6) (h17 : p.proto ≠ 17) (h1 : p.proto ≠ 1) (h47 : p.proto ≠ 47) :
    Calls Try.prog 11 #[(.agg #[.int .u8 (p).tos, .int .u16 (p).id, .bool (p).keep, .int .u8 (p).ttl, .int .u8 (p).proto, .int .u32 (p).src, .int .u32 (p).dst, .slice A1 n1 c1, .slice A2 n2 c2])] w (TtPost w zT 12) := by
  have n6 : (p.proto == 6) = false := by simpa using h6
  have n17 : (p.proto == 17) = false := by simpa using h17
  have hn1 : (p.proto == 1) = false := by simpa using h1
  have n47 : (p.proto == 47) = false := by simpa using h47
  clear h6 h17 h1 h47
  obtain ⟨k, hk⟩ : ∃ k : Nat, w.heap.size = k := ⟨_, rfl⟩
  obtain ⟨w1, hw1⟩ : ∃ W, (((w.alloc (.cells #[.int .u8 (p).tos, .int .u16 (p).id, .bool (p).keep, .int .u8 (p).ttl, .int .u8 (p).proto, .int .u32 (p).src, .int .u32 (p).dst, .slice A1 n1 c1, .slice A2 n2 c2] 26)).alloc (.cells #[.int .u8 0, .int .u32 0, .int .u32 0, .int .u16 0, .int .u16 0] 28)).alloc (.cells #[.int .u8 p.proto, .int .u32 p.src, .int .u32 p.dst, .int .u16 0, .int .u16 0] 28)) = W := ⟨_, rfl⟩
  have P1 : Blk w1 k #[.int .u8 (p).tos, .int .u16 (p).id, .bool (p).keep, .int .u8 (p).ttl, .int .u8 (p).proto, .int .u32 (p).src, .int .u32 (p).dst, .slice A1 n1 c1, .slice A2 n2 c2] 26 := by rw [← hw1]; exact (((blk_new _ _ _ k (by simp [hk])).alloc _).alloc _)
  have Z1 : Blk w1 (k + 1) #[.int .u8 0, .int .u32 0, .int .u32 0, .int .u16 0, .int .u16 0] 28 := by rw [← hw1]; exact ((blk_new _ _ _ (k + 1) (by simp [hk])).alloc _)
  have X1 : Blk w1 (k + 1 + 1) #[.int .u8 p.proto, .int .u32 p.src, .int .u32 p.dst, .int .u16 0, .int .u16 0] 28 := by rw [← hw1]; exact (blk_new _ _ _ (k + 1 + 1) (by simp [hk]))
  have R1 : Below w.heap.size w w1 := by rw [← hw1]; (repeat (first | with_reducible exact Below.refl _ _ | with_reducible refine below_drew ?_ | with_reducible refine below_drewN ?_ _ | with_reducible refine below_alloc ?_ (Nat.le_refl _) _ | with_reducible refine Below.setCell ?_ (by first | exact Nat.le_refl _ | (simp only []; omega)) _ | with_reducible assumption))
  have Pc1 := P1.cell
  have Zc1 := Z1.cell
  have Xc1 := X1.cell
  have Pl1 := P1.lt
  have Zl1 := Z1.lt
  have Xl1 := X1.lt
  have i3 : w1.setCell ⟨k + 1 + 1, 3, none⟩ (.int .u16 0) = w1 := X1.idle rfl
  have i4 : w1.setCell ⟨k + 1 + 1, 4, none⟩ (.int .u16 0) = w1 := X1.idle rfl
  go_enter Try.func11, Try.ntmps11
  go_wp2_with fail
  obtain ⟨wf, hwf, Sf⟩ := store5 Z1 (.int .u8 0) (.int .u32 0) (.int .u32 0) (.int .u16 0) (.int .u16 0)
  rw [hwf]
  have pf := Sf.blk.cell
  exact bodyPost_ret (v := .tuple #[(.agg #[.int .u8 (zT).proto, .int .u32 (zT).src, .int .u32 (zT).dst, .int .u16 (zT).sp, .int .u16 (zT).dp]), .int .i64 12]) (by simp [results, Try.results11, go_sem, pf, zT]) rfl ⟨⟨rfl, Sf.bel R1 (by omega)⟩⟩
theorem rof_any (p : Pkt) (hp : p.Ok) (A1 : Option Addr) (n1 c1 : Nat) (A2 : Option Addr) (n2 c2 : Nat) (w : World) (k2 : Bs w A2 n2 c2 p.dat) (h7 : n2 ≤ 17592186044400) :
    Calls Try.prog 11 #[(.agg #[.int .u8 (p).tos, .int .u16 (p).id, .bool (p).keep, .int .u8 (p).ttl, .int .u8 (p).proto, .int .u32 (p).src, .int .u32 (p).dst, .slice A1 n1 c1, .slice A2 n2 c2])] w (TtPost w (ofT p) (ofE p)) := by
  unfold ofT ofE
  by_cases h6 : p.proto = 6
  · rw [if_pos h6, if_pos h6]; exact rof_tcp_ p A1 n1 c1 A2 n2 c2 w k2 h6 _ _ (fun W h => rtcp_any p hp A1 n1 c1 A2 n2 c2 W h h7)
  rw [if_neg h6, if_neg h6]
  by_cases h17 : p.proto = 17
  · rw [if_pos h17, if_pos h17]; exact rof_udp_ p A1 n1 c1 A2 n2 c2 w k2 h17 _ _ (fun W h => rudp_any p hp A1 n1 c1 A2 n2 c2 W h)
  rw [if_neg h17, if_neg h17]
  by_cases h1 : p.proto = 1
  · rw [if_pos h1, if_pos h1]; exact rof_icmp_ p A1 n1 c1 A2 n2 c2 w k2 h1 _ (icM_ok p) _ (fun W h => ricmp_any p A1 n1 c1 A2 n2 c2 W h (by omega))
  rw [if_neg h1, if_neg h1]
  by_cases h47 : p.proto = 47
  · rw [if_pos h47, if_pos h47]; exact rof_gre_ p A1 n1 c1 A2 n2 c2 w k2 h47 _ _ (fun W h => rgre_any p A1 n1 c1 A2 n2 c2 W h)
  rw [if_neg h47, if_neg h47]
  exact rof_no p A1 n1 c1 A2 n2 c2 w h6 h17 h1 h47
end Go.Proofs.Ythgoffbfgdgkpaa

namespace Go.Proofs.Ythgoffbfgdgkpaa
open Go.RowKit
set_option linter.unusedVariables false
set_option maxRecDepth 100000

theorem bgP_ok {p : Pkt} {f : Frm} (h : bgE p f = 0) : bgP p f = { p with proto := 47, dat := gL f } := by
  revert h
  unfold bgE bgP
  split
  · intro h; exact absurd h (by decide)
  · intro h
    unfold withP
    rw [gL_len, if_pos h]
theorem gH_len (f : Frm) : (gH f).length = 8 + (if f.hs then 4 else 0) + (if f.ha then 4 else 0) := by
  unfold gH grB two four
  cases f.hs <;> cases f.ha <;> simp
theorem gH_at (f : Frm) (hf : f.Ok) (hl : f.dat.length ≤ 65535) (r : List UInt8) :
    bt (gH f ++ r) 0 = b0F f.hs ∧ bt (gH f ++ r) 1 = b1F f.ha ∧ bt (gH f ++ r) 2 = 136 ∧ bt (gH f ++ r) 3 = 11 ∧ get16 (gH f ++ r) 4 = f.dat.length ∧ get16 (gH f ++ r) 6 = f.call := by
  have hL : 8 ≤ (gH f ++ r).length := by rw [List.length_append, gH_len]; omega
  obtain ⟨⟨c0, c1⟩, -, -⟩ := hf
  have h0 := b0F_bd f.hs
  have h1 := b1F_bd f.ha
  have e : gH f ++ r = [ub (b0F f.hs), ub (b1F f.ha), ub 136, ub 11, ub ((f.dat.length : Int) % 65536 / 256), ub ((f.dat.length : Int) % 65536), ub (f.call / 256), ub f.call] ++ ((if f.hs then four f.seq else []) ++ (if f.ha then four f.ack else []) ++ r) := by
    unfold gH grB two; simp
  rw [e] at hL ⊢
  refine ⟨?_, ?_, ?_, ?_, ?_, ?_⟩
  · show ((ub _).toNat : Int) = _
    rw [ub_val]; omega
  · show ((ub _).toNat : Int) = _
    rw [ub_val]; omega
  · rfl
  · rfl
  · rw [get16_in (by omega) (by omega)]
    show ((ub _).toNat : Int) * 256 + ((ub _).toNat : Int) = _
    rw [ub_val, ub_val]; omega
  · rw [get16_in (by omega) (by omega)]
    show ((ub _).toNat : Int) * 256 + ((ub _).toNat : Int) = _
    rw [ub_val, ub_val]; omega
end Go.Proofs.Ythgoffbfgdgkpaa

namespace Go.Proofs.Ythgoffbfgdgkpaa
open Go.RowKit
set_option linter.unusedVariables false
set_option linter.unusedSimpArgs false
set_option maxHeartbeats 4000000

def fault (e : Int) : Value := .iface 108 (.agg #[.int .i64 e])
theorem may_yes (e : Int) (w : World) : Calls Try.prog 90 #[.bool true, .int .i64 e] w fun r w' => r = .returned (.tuple #[]) ∧ w = w' := by
  go_enter Try.func90, Try.ntmps90
  go_wp2
  go_end0
  exact ⟨rfl, rfl⟩
theorem may_no (e : Int) (w : World) : Calls Try.prog 90 #[.bool false, .int .i64 e] w fun r w' => r = .panicked [{ v := fault e, recovered := false }] ∧ w = w' := by
  go_enter Try.func90, Try.ntmps90
  go_wp2
  exact ⟨rfl, rfl, rfl⟩
structure LenPost (w0 : World) (k r : Nat) (cs : Array Value) (tr : TypeId) (A : Option Addr) (n c : Nat) (l : List UInt8) (q : Bool) (e : Ending) (w' : World) : Prop where
  bel : Below w0.heap.size w0 w'
  ok : lenE q l = 0 → e = .returned (.tuple #[]) ∧ Blk w' k #[.int .i64 (hdOf l), .int .i64 (alOf l), .slice A n c] 113 ∧ Blk w' r cs tr
  no : lenE q l ≠ 0 → e = .panicked [{ v := fault (lenE q l), recovered := false }]
theorem lenPost_no {w0 : World} {k r : Nat} {cs : Array Value} {tr : TypeId} {A : Option Addr} {n c : Nat} {l : List UInt8} {q : Bool} {w' : World} (x : Int) (hE : lenE q l = x) (hx : x ≠ 0) (hB : Below w0.heap.size w0 w') :
    LenPost w0 k r cs tr A n c l q (.panicked [{ v := fault x, recovered := false }]) w' := ⟨hB, fun h => absurd (hE.symm.trans h) hx, fun _ => by rw [hE]⟩
theorem lengths_any (w0 : World) (k : Nat) (A : Option Addr) (n c : Nat) (l : List UInt8) (q : Bool) (w : World) (hb : Bs w0 A n c l) (T : Below w0.heap.size w0 w) (hk : w0.heap.size ≤ k) (K : Blk w k #[.int .i64 0, .int .i64 0, .slice A n c] 113) (r : Nat) (cs : Array Value) (tr : TypeId) (hr : r ≠ k) (R : Blk w r cs tr) :
    Calls Try.prog 89 #[.pointer (some ⟨k, 0, none⟩), .bool q] w (LenPost w0 k r cs tr A n c l q) := by
  have hlen := hb.len
  have hmax := hb.max
  have kc := K.cell
  go_enter Try.func89, Try.ntmps89
  go_wp2_with fail
  by_cases h1 : (20 : Int) ≤ n
  · rw [decide_eq_true h1]
    obtain ⟨b, off, rfl, hc⟩ := (hb.below T).rd (by omega)
    have c0 := hc 0 (by omega)
    rw [Nat.add_zero] at c0
    have b0 := bt_lo l 0
    have b0' := bt_hi l 0
    have hand := and_u8_15 b0 b0'
    have hn0 : (0 : Int) < n := by omega
    clear hc
    refine (may_yes _ _).mono ?_
    rintro e w' ⟨rfl, rfl⟩
    go_wp2_with fail
    by_cases h2 : bt l 0 / 16 = 4
    · rw [show (bt l 0 / 16 == 4) = true from by simpa using h2]
      refine (may_yes _ _).mono ?_
      rintro e w' ⟨rfl, rfl⟩
      have K1 : Blk (w.setCell ⟨k, 0, none⟩ (.int .i64 (4 * (bt l 0 % 16)))) k #[.int .i64 (4 * (bt l 0 % 16)), .int .i64 0, .slice (some ⟨b, off, none⟩) n c] 113 := K.set_ 0 _
      have T1 := T.setCell (p := ⟨k, 0, none⟩) hk (.int .i64 (4 * (bt l 0 % 16)))
      have R1 := R.far ⟨k, 0, none⟩ (Ne.symm hr) (.int .i64 (4 * (bt l 0 % 16)))
      have kc1 := K1.cell
      go_wp2_with fail
      clear kc hand c0
      obtain ⟨w1, hw1⟩ : ∃ w1, w.setCell ⟨k, 0, none⟩ (.int .i64 (4 * (bt l 0 % 16))) = w1 := ⟨_, rfl⟩
      rw [hw1] at K1 T1 kc1 R1 ⊢
      clear hw1 T K R
      obtain ⟨h, hh⟩ : ∃ h, hdOf l = h := ⟨_, rfl⟩
      have hh' : 4 * (bt l 0 % 16) = h := hh
      rw [hh'] at K1 kc1 ⊢
      have h0 : 0 ≤ h := by omega
      have h60 : h ≤ 60 := by omega
      by_cases h3 : (20 : Int) ≤ h
      · rw [decide_eq_true h3]
        refine (may_yes _ _).mono ?_
        rintro e w' ⟨rfl, rfl⟩
        go_wp2_with fail
        refine region_txt 11 (by kernel_rfl) (by kernel_rfl) ?_; (iterate 11 (first | (apply ObsK.skip (by rfl)) | (apply ObsK.v (by rfl); (intro wo hT; (repeat (first | (intro _ _ k; try have hcv := cv k))); (have kc2 := (K1.below hT).cell); refine Goes.mk ?_; go_simp; first | exact goes_v | exact goes_b (by assumption) | (refine goes_enter ?_; first | fail))) | (apply ObsK.b (by rfl); (intro wo hT; (repeat (first | (intro _ _ k; try have hcv := cv k))); (have kc2 := (K1.below hT).cell); refine Goes.mk ?_; go_simp; first | exact goes_v | exact goes_b (by assumption) | (refine goes_enter ?_; first | fail))))); refine ObsK.nil ?_; intro wz hBz; simp only [finOn, List.drop_succ_cons, List.drop_zero, List.drop_nil]
        go_simp
        have K2 := K1.below hBz
        have T2 := below_then T1 hBz
        have R2 := R1.below hBz
        clear kc1 K1 hBz T1 R1
        go_wp2_with fail
        obtain ⟨g, hg⟩ : ∃ g, get16 l 2 = g := ⟨_, rfl⟩
        have g0 : 0 ≤ g := by rw [← hg]; exact get16_lo l 2
        have g1 : g ≤ 65535 := by rw [← hg]; exact get16_hi l 2
        by_cases h4 : h ≤ (n : Int)
        · rw [decide_eq_true h4]
          refine (may_yes _ _).mono ?_
          rintro e w' ⟨rfl, rfl⟩
          have kd2 := K2.cell
          go_wp2_with (go_at_call 47; ((with_reducible refine (get16_any (some ⟨b, off, none⟩) n c l 2 wz (hb.below T2)).mono ?_); rintro e w3 ⟨rfl, hD⟩); have K3 := K2.below hD.bel; have T3 := below_then T2 hD.bel; have kc3 := K3.cell)
          have K4 : Blk (w3.setCell ⟨k, 1, none⟩ (.int .i64 g)) k #[.int .i64 h, .int .i64 g, .slice (some ⟨b, off, none⟩) n c] 113 := K3.set_ 1 _
          have T4 := T3.setCell (p := ⟨k, 1, none⟩) hk (.int .i64 g)
          have R4 := (R2.below hD.bel).far ⟨k, 1, none⟩ (Ne.symm hr) (.int .i64 g)
          clear kc3 kd2 R2
          obtain ⟨w4, hw4⟩ : ∃ w4, w3.setCell ⟨k, 1, none⟩ (.int .i64 g) = w4 := ⟨_, rfl⟩
          rw [hw4] at K4 T4 R4 ⊢
          clear hw4 K2 T2 K3 T3 hD
          refine region_txt 11 (by kernel_rfl) (by kernel_rfl) ?_; (iterate 11 (first | (apply ObsK.skip (by rfl)) | (apply ObsK.v (by rfl); (intro wo hT; (repeat (first | (intro _ _ k; try have hcv := cv k))); (have kc2 := (K4.below hT).cell); refine Goes.mk ?_; go_simp; first | exact goes_v | exact goes_b (by assumption) | (refine goes_enter ?_; first | fail))) | (apply ObsK.b (by rfl); (intro wo hT; (repeat (first | (intro _ _ k; try have hcv := cv k))); (have kc2 := (K4.below hT).cell); refine Goes.mk ?_; go_simp; first | exact goes_v | exact goes_b (by assumption) | (refine goes_enter ?_; first | fail))))); refine ObsK.nil ?_; intro wz hBz; simp only [finOn, List.drop_succ_cons, List.drop_zero, List.drop_nil]
          go_simp
          have K5 := K4.below hBz
          have T5 := below_then T4 hBz
          have R5 := R4.below hBz
          clear K4 hBz T4 R4
          go_wp2_with fail
          by_cases h5 : h ≤ g
          · rw [decide_eq_true h5]
            refine (may_yes _ _).mono ?_
            rintro e w' ⟨rfl, rfl⟩
            go_wp2_with fail
            by_cases h6 : q = false ∧ (n : Int) < g
            · obtain ⟨rfl, h6⟩ := h6
              have h6' : ¬ g ≤ (n : Int) := by omega
              refine region_txt 14 (by kernel_rfl) (by kernel_rfl) ?_; (iterate 14 (first | (apply ObsK.skip (by rfl)) | (apply ObsK.v (by rfl); (intro wo hT; (repeat (first | (intro _ _ k; try have hcv := cv k))); (have kc2 := (K5.below hT).cell); refine Goes.mk ?_; go_simp; first | exact goes_v | exact goes_b (by assumption) | (refine goes_enter ?_; first | fail))) | (apply ObsK.b (by rfl); (intro wo hT; (repeat (first | (intro _ _ k; try have hcv := cv k))); (have kc2 := (K5.below hT).cell); refine Goes.mk ?_; go_simp; first | exact goes_v | exact goes_b (by assumption) | (refine goes_enter ?_; first | fail))))); refine ObsK.nil ?_; intro wz hBz; simp only [finOn, List.drop_succ_cons, List.drop_zero, List.drop_nil]
              go_simp
              have T6 := below_then T5 hBz
              go_wp2_with fail
              refine (may_no _ _).mono ?_
              rintro e w' ⟨rfl, rfl⟩
              exact ⟨rfl, lenPost_no 3 (by unfold lenE; rw [hh, hg, if_neg (by omega), if_neg (by omega), if_neg (by omega), if_neg (by omega), if_neg (by omega), if_pos ⟨rfl, by omega⟩]) (by omega) T6⟩
            · have hE : lenE q l = 0 := by
                unfold lenE
                rw [hh, hg, if_neg (by omega), if_neg (by omega), if_neg (by omega), if_neg (by omega), if_neg (by omega), if_neg (by rw [hlen]; exact h6)]
              have HE := Lib.hid hE
              clear hE
              have hal : Hid (alOf l = if (n : Int) < g then (n : Int) else g) := by unfold Hid alOf; rw [hg, hlen]
              cases q with
              | true =>
                clear h6
                refine region_txt 14 (by kernel_rfl) (by kernel_rfl) ?_; (iterate 14 (first | (apply ObsK.skip (by rfl)) | (apply ObsK.v (by rfl); (intro wo hT; (repeat (first | (intro _ _ k; try have hcv := cv k))); (have kc2 := (K5.below hT).cell); refine Goes.mk ?_; go_simp; first | exact goes_v | exact goes_b (by assumption) | (refine goes_enter ?_; first | fail))) | (apply ObsK.b (by rfl); (intro wo hT; (repeat (first | (intro _ _ k; try have hcv := cv k))); (have kc2 := (K5.below hT).cell); refine Goes.mk ?_; go_simp; first | exact goes_v | exact goes_b (by assumption) | (refine goes_enter ?_; first | fail))))); refine ObsK.nil ?_; intro wz hBz; simp only [finOn, List.drop_succ_cons, List.drop_zero, List.drop_nil]
                go_simp
                have K6 := K5.below hBz
                have T6 := below_then T5 hBz
                have R6 := R5.below hBz
                clear K5 T5 hBz R5
                go_wp2_with fail
                refine (may_yes _ _).mono ?_
                rintro e w' ⟨rfl, rfl⟩
                go_wp2_with fail
                obtain ⟨m, hm⟩ : ∃ m : Int, (if (n : Int) < g then (n : Int) else g) = m := ⟨_, rfl⟩
                have hmin : ∀ W : World, (Builtin.min_ #[3, 3] 3 #[.int .i64 g, .int .i64 n]).run Try.prog W = .ok (.int .i64 m) W := fun W => by rw [← hm]; rfl
                have HM : Hid (alOf l = m) := hal.out.trans hm
                clear hm hal
                refine region_txt 15 (by kernel_rfl) (by kernel_rfl) ?_; (iterate 15 (first | (apply ObsK.skip (by rfl)) | (apply ObsK.v (by rfl); (intro wo hT; (repeat (first | (intro _ _ k; try have hcv := cv k))); (have kc2 := (K6.below hT).cell); refine Goes.mk ?_; go_simp; first | exact goes_v | exact goes_b (by assumption) | (refine goes_enter ?_; first | fail))) | (apply ObsK.b (by rfl); (intro wo hT; (repeat (first | (intro _ _ k; try have hcv := cv k))); (have kc2 := (K6.below hT).cell); refine Goes.mk ?_; go_simp; first | exact goes_v | exact goes_b (by assumption) | (refine goes_enter ?_; first | fail))))); refine ObsK.nil ?_; intro wz hBz; simp only [finOn, List.drop_succ_cons, List.drop_zero, List.drop_nil]
                go_simp
                have K7 := K6.below hBz
                have T7 := below_then T6 hBz
                have R7 := R6.below hBz
                have kc7 := K7.cell
                clear K6 T6 hBz R6
                go_wp2_with fail
                go_end0
                refine ⟨T7.setCell (p := ⟨k, 1, none⟩) hk _, fun _ => ⟨rfl, ?_, R7.far ⟨k, 1, none⟩ (Ne.symm hr) _⟩, fun hx => absurd HE.out hx⟩
                rw [hh, HM.out]
                exact K7.set_ 1 _
              | false =>
                have h7 : g ≤ (n : Int) := by
                  rcases Int.lt_or_le (n : Int) g with hx | hx
                  · exact absurd ⟨rfl, hx⟩ h6
                  · exact hx
                clear h6
                refine region_txt 14 (by kernel_rfl) (by kernel_rfl) ?_; (iterate 14 (first | (apply ObsK.skip (by rfl)) | (apply ObsK.v (by rfl); (intro wo hT; (repeat (first | (intro _ _ k; try have hcv := cv k))); (have kc2 := (K5.below hT).cell); refine Goes.mk ?_; go_simp; first | exact goes_v | exact goes_b (by assumption) | (refine goes_enter ?_; first | fail))) | (apply ObsK.b (by rfl); (intro wo hT; (repeat (first | (intro _ _ k; try have hcv := cv k))); (have kc2 := (K5.below hT).cell); refine Goes.mk ?_; go_simp; first | exact goes_v | exact goes_b (by assumption) | (refine goes_enter ?_; first | fail))))); refine ObsK.nil ?_; intro wz hBz; simp only [finOn, List.drop_succ_cons, List.drop_zero, List.drop_nil]
                go_simp
                have K6 := K5.below hBz
                have T6 := below_then T5 hBz
                have R6 := R5.below hBz
                clear K5 T5 hBz R5
                go_wp2_with fail
                refine (may_yes _ _).mono ?_
                rintro e w' ⟨rfl, rfl⟩
                go_wp2_with fail
                obtain ⟨m, hm⟩ : ∃ m : Int, (if (n : Int) < g then (n : Int) else g) = m := ⟨_, rfl⟩
                have hmin : ∀ W : World, (Builtin.min_ #[3, 3] 3 #[.int .i64 g, .int .i64 n]).run Try.prog W = .ok (.int .i64 m) W := fun W => by rw [← hm]; rfl
                have HM : Hid (alOf l = m) := hal.out.trans hm
                clear hm hal
                refine region_txt 15 (by kernel_rfl) (by kernel_rfl) ?_; (iterate 15 (first | (apply ObsK.skip (by rfl)) | (apply ObsK.v (by rfl); (intro wo hT; (repeat (first | (intro _ _ k; try have hcv := cv k))); (have kc2 := (K6.below hT).cell); refine Goes.mk ?_; go_simp; first | exact goes_v | exact goes_b (by assumption) | (refine goes_enter ?_; first | fail))) | (apply ObsK.b (by rfl); (intro wo hT; (repeat (first | (intro _ _ k; try have hcv := cv k))); (have kc2 := (K6.below hT).cell); refine Goes.mk ?_; go_simp; first | exact goes_v | exact goes_b (by assumption) | (refine goes_enter ?_; first | fail))))); refine ObsK.nil ?_; intro wz hBz; simp only [finOn, List.drop_succ_cons, List.drop_zero, List.drop_nil]
                go_simp
                have K7 := K6.below hBz
                have T7 := below_then T6 hBz
                have R7 := R6.below hBz
                have kc7 := K7.cell
                clear K6 T6 hBz R6
                go_wp2_with fail
                go_end0
                refine ⟨T7.setCell (p := ⟨k, 1, none⟩) hk _, fun _ => ⟨rfl, ?_, R7.far ⟨k, 1, none⟩ (Ne.symm hr) _⟩, fun hx => absurd HE.out hx⟩
                rw [hh, HM.out]
                exact K7.set_ 1 _
          · rw [decide_eq_false h5]
            refine (may_no _ _).mono ?_
            rintro e w' ⟨rfl, rfl⟩
            exact ⟨rfl, lenPost_no 4 (by unfold lenE; rw [hh, hg, if_neg (by omega), if_neg (by omega), if_neg (by omega), if_neg (by omega), if_pos (by omega)]) (by omega) T5⟩
        · rw [decide_eq_false h4]
          refine (may_no _ _).mono ?_
          rintro e w' ⟨rfl, rfl⟩
          exact ⟨rfl, lenPost_no 3 (by unfold lenE; rw [hh, if_neg (by omega), if_neg (by omega), if_neg (by omega), if_pos (by omega)]) (by omega) T2⟩
      · rw [decide_eq_false h3]
        refine (may_no _ _).mono ?_
        rintro e w' ⟨rfl, rfl⟩
        exact ⟨rfl, lenPost_no 4 (by unfold lenE; rw [hh, if_neg (by omega), if_neg (by omega), if_pos (by omega)]) (by omega) T1⟩
    · rw [show (bt l 0 / 16 == 4) = false from by simpa using h2]
      refine (may_no _ _).mono ?_
      rintro e w' ⟨rfl, rfl⟩
      exact ⟨rfl, lenPost_no 6 (by unfold lenE; rw [if_neg (by omega), if_pos h2]) (by omega) T⟩
  · rw [decide_eq_false h1]
    refine (may_no _ _).mono ?_
    rintro e w' ⟨rfl, rfl⟩
    exact ⟨rfl, lenPost_no 3 (by unfold lenE; rw [if_pos (by omega)]) (by omega) T⟩
end Go.Proofs.Ythgoffbfgdgkpaa

namespace Go.Proofs.Ythgoffbfgdgkpaa
open Go.RowKit
set_option linter.unusedVariables false
set_option linter.unusedSimpArgs false
set_option maxHeartbeats 8000000
set_option maxRecDepth 100000

structure PkPost (w0 : World) (q : Bool) (l : List UInt8) (e : Ending) (w' : World) : Prop where
  bel : Below w0.heap.size w0 w'
  ok : rdE q l = 0 → ∃ A1 n1 c1 A2 n2 c2, e = .returned (.agg #[.int .u8 (rdP l).tos, .int .u16 (rdP l).id, .bool (rdP l).keep, .int .u8 (rdP l).ttl, .int .u8 (rdP l).proto, .int .u32 (rdP l).src, .int .u32 (rdP l).dst, .slice A1 n1 c1, .slice A2 n2 c2]) ∧ Bs w' A1 n1 c1 (rdP l).opt ∧ Bs w' A2 n2 c2 (rdP l).dat ∧ (∀ a, A1 = some a → w0.heap.size ≤ a.block) ∧ (∀ a, A2 = some a → w0.heap.size ≤ a.block)
  no : rdE q l ≠ 0 → e = .panicked [{ v := fault (rdE q l), recovered := false }]
theorem pkPost_no {w0 : World} {l : List UInt8} {q : Bool} {w' : World} (x : Int) (hE : rdE q l = x) (hx : x ≠ 0) (hB : Below w0.heap.size w0 w') :
    PkPost w0 q l (.panicked [{ v := fault x, recovered := false }]) w' := ⟨hB, fun h => absurd (hE.symm.trans h) hx, fun _ => by rw [hE]⟩
theorem packet_any (w0 : World) (k : Nat) (A : Option Addr) (n c : Nat) (l : List UInt8) (q : Bool) (w : World) (hb : Bs w0 A n c l) (T : Below w0.heap.size w0 w) (hk : w0.heap.size ≤ k) (K : Blk w k #[.int .i64 0, .int .i64 0, .slice A n c] 113) (le : Int) (hle : le = if q then 8 else 0) :
    Calls Try.prog 78 #[.pointer (some ⟨k, 0, none⟩), .bool q, .int .i64 le] w (PkPost w0 q l) := by
  have hlen := hb.len
  have hmax := hb.max
  have hcap := hb.cap
  obtain ⟨i8, hi8, _, hs8, _⟩ := info_parts info_u8
  have HLE := Lib.hid hle
  have le0 : 0 ≤ le := by rw [hle]; split <;> omega
  have le8 : le ≤ 8 := by rw [hle]; split <;> omega
  clear hle
  go_enter Try.func78, Try.ntmps78
  go_wp2_with fail
  have hkl := K.lt
  have T1 : Below w0.heap.size w0 (w.alloc (.cells #[.int .u8 0, .int .u16 0, .bool false, .int .u8 0, .int .u8 0, .int .u32 0, .int .u32 0, .slice none 0 0, .slice none 0 0] 26)) := T.alloc (by have := T.size; omega) _
  have R1 := blk_new w #[.int .u8 0, .int .u16 0, .bool false, .int .u8 0, .int .u8 0, .int .u32 0, .int .u32 0, .slice none 0 0, .slice none 0 0] 26 _ rfl
  refine (lengths_any w0 k A n c l q _ hb T1 hk (K.alloc _) w.heap.size _ _ (by omega) R1).mono ?_
  intro e w1 hP
  by_cases hE0 : lenE q l = 0
  · obtain ⟨rfl, K1, R2⟩ := hP.ok hE0
    obtain ⟨f1, f2, f3, f4, f5, f6, f7, f8, f9⟩ := len_facts hE0
    have T2 := hP.bel
    clear hP T1 R1
    obtain ⟨b, off, rfl⟩ := hb.some_ (by omega)
    obtain ⟨h, hh⟩ : ∃ h, hdOf l = h := ⟨_, rfl⟩
    obtain ⟨m, hm⟩ : ∃ m, alOf l = m := ⟨_, rfl⟩
    rw [hh] at f3 f4 f5 f7 f8 K1
    rw [hm] at f5 f6 K1
    rw [hlen] at f1 f4 f6
    clear f8 f9 f2
    have hcutA : ∀ W, (Instr.slice 24 (.slice (some ⟨b, off, none⟩) n c) none (some (.int .i64 h)) none).run Try.prog W = _ := fun W => cut_h Try.underlying24 hi8 hs8 (some ⟨b, off, none⟩) n c .i64 h (by omega) (by omega) W
    obtain ⟨A', n', c', eA, en, ec, hbA⟩ := hb.cutE (lo := 0) (hi := h.toNat) (by omega) (by omega)
    simp only [eA, en, ec] at hcutA
    clear eA en ec
    simp only [List.drop_zero] at hbA
    go_wp2_with fail
    refine region_txt 11 (by kernel_rfl) (by kernel_rfl) ?_; (iterate 11 (first | (apply ObsK.skip (by rfl)) | (apply ObsK.v (by rfl); (intro wo hT; (repeat (first | (intro _ _ k; try have hcv := cv k))); (have kc2 := (K1.below hT).cell); refine Goes.mk ?_; go_simp; first | exact goes_v | exact goes_b (by assumption) | (refine goes_enter ?_; first | (go_at_call 62; ((with_reducible refine (good_any A' n' c' (l.take h.toNat) wo ((hbA.below T2).below hT)).mono ?_); rintro e w2 ⟨rfl, hB2⟩); exact ret_v hB2)))) | (apply ObsK.b (by rfl); (intro wo hT; (repeat (first | (intro _ _ k; try have hcv := cv k))); (have kc2 := (K1.below hT).cell); refine Goes.mk ?_; go_simp; first | exact goes_v | exact goes_b (by assumption) | (refine goes_enter ?_; first | (go_at_call 62; ((with_reducible refine (good_any A' n' c' (l.take h.toNat) wo ((hbA.below T2).below hT)).mono ?_); rintro e w2 ⟨rfl, hB2⟩); exact ret_v hB2)))))); refine ObsK.nil ?_; intro wz hBz; simp only [finOn, List.drop_succ_cons, List.drop_zero, List.drop_nil]
    go_simp
    have K3 := K1.below hBz
    have R3 := R2.below hBz
    have T3 := below_then T2 hBz
    clear hBz K1 R2 T2
    go_wp2_with fail
    obtain ⟨s, hs⟩ : ∃ s, csum (l.take h.toNat) = s := ⟨_, rfl⟩
    rw [hs]
    by_cases h5 : s = 0
    · rw [show (s == 0) = true from by simpa using h5]
      refine (may_yes _ _).mono ?_
      rintro e w' ⟨rfl, rfl⟩
      obtain ⟨f, hf⟩ : ∃ f, get16 l 6 = f := ⟨_, rfl⟩
      have g0 : 0 ≤ f := by rw [← hf]; exact get16_lo l 6
      have g1 : f ≤ 65535 := by rw [← hf]; exact get16_hi l 6
      have ha1 := and_u16_low g0 g1
      have ha2 := and_u16_top g0 g1
      have kc3 := K3.cell
      go_wp2_with (go_at_call 47; ((with_reducible refine (get16_any (some ⟨b, off, none⟩) n c l 6 _ (hb.below T3)).mono ?_); rintro e w4 ⟨rfl, hD⟩); have K4 := K3.below hD.bel; have T4 := below_then T3 hD.bel; have R4 := R3.below hD.bel)
      clear kc3
      by_cases h6 : f % 16384 = 0
      · rw [show (f % 16384 == 0) = true from by simpa using h6]
        refine (may_yes _ _).mono ?_
        rintro e w' ⟨rfl, rfl⟩
        go_wp2_with fail
        by_cases h7 : 32768 ≤ f
        · rw [show (f / 32768 * 32768 == 0) = false from by simp; omega]
          refine (may_no _ _).mono ?_
          rintro e w' ⟨rfl, rfl⟩
          exact ⟨rfl, pkPost_no 4 (by unfold rdE; rw [if_neg (by omega), hh, if_neg (by rw [hs]; omega), hf, if_neg (by omega), if_pos h7]) (by omega) T4⟩
        · rw [show (f / 32768 * 32768 == 0) = true from by simp; omega]
          refine (may_yes _ _).mono ?_
          rintro e w' ⟨rfl, rfl⟩
          go_wp2_with fail
          refine region_txt 13 (by kernel_rfl) (by kernel_rfl) ?_; (iterate 13 (first | (apply ObsK.skip (by rfl)) | (apply ObsK.v (by rfl); (intro wo hT; (repeat (first | (intro _ _ k; try have hcv := cv k))); (have kc2 := (K4.below hT).cell); refine Goes.mk ?_; go_simp; first | exact goes_v | exact goes_b (by assumption) | (refine goes_enter ?_; first | fail))) | (apply ObsK.b (by rfl); (intro wo hT; (repeat (first | (intro _ _ k; try have hcv := cv k))); (have kc2 := (K4.below hT).cell); refine Goes.mk ?_; go_simp; first | exact goes_v | exact goes_b (by assumption) | (refine goes_enter ?_; first | fail))))); refine ObsK.nil ?_; intro wz hBz; simp only [finOn, List.drop_succ_cons, List.drop_zero, List.drop_nil]
          go_simp
          have K5 := K4.below hBz
          have R5 := R4.below hBz
          have T5 := below_then T4 hBz
          clear hBz K4 R4 T4 hD
          go_wp2_with fail
          by_cases h8 : le ≤ m - h
          · rw [decide_eq_true h8]
            refine (may_yes _ _).mono ?_
            rintro e w' ⟨rfl, rfl⟩
            have hE : rdE q l = 0 := by
              unfold rdE
              rw [if_neg (by omega), hh, if_neg (by rw [hs]; omega), hf, if_neg (by omega), if_neg (by omega), hm]
              rw [if_neg]
              rintro ⟨rfl, hx⟩
              have := HLE.out
              simp at this
              omega
            have HE := Lib.hid hE
            clear hE
            have hcutB : ∀ W, (Instr.slice 24 (.slice (some ⟨b, off, none⟩) n c) (some (.int .i64 20)) (some (.int .i64 h)) none).run Try.prog W = _ := fun W => cut_lh Try.underlying24 hi8 hs8 (some ⟨b, off, none⟩) n c .i64 .i64 20 h (by omega) (by omega) (by omega) W
            obtain ⟨A2, n2, c2, eA, en, ec, hbB⟩ := hb.cutE (lo := 20) (hi := h.toNat) (by omega) (by omega)
            simp only [show (20 : Int).toNat = 20 from rfl, eA, en, ec] at hcutB
            clear eA en ec
            have hcutC : ∀ W, (Instr.slice 24 (.slice (some ⟨b, off, none⟩) n c) (some (.int .i64 h)) (some (.int .i64 m)) none).run Try.prog W = _ := fun W => cut_lh Try.underlying24 hi8 hs8 (some ⟨b, off, none⟩) n c .i64 .i64 h m (by omega) (by omega) (by omega) W
            obtain ⟨A3, n3, c3, eA, en, ec, hbC⟩ := hb.cutE (lo := h.toNat) (hi := m.toNat) (by omega) (by omega)
            simp only [eA, en, ec] at hcutC
            clear eA en ec
            have HF := Lib.hid hf
            have HH := Lib.hid hh
            have HM := Lib.hid hm
            have x1 : (1 : Int) < n := by omega
            have x8 : (8 : Int) < n := by omega
            have x9 : (9 : Int) < n := by omega
            clear hf hh hm ha1 ha2 hs h5 h6 h7 hcutA
            go_wp2_with fail
            refine region_txt 62 (by kernel_rfl) (by kernel_rfl) ?_; (iterate 62 (first | (apply ObsK.skip (by rfl)) | (apply ObsK.v (by rfl); (intro wo hT; (repeat (first | (intro v hv; ((skip))) | (intro _ _ k; try have hcv := cv k))); (have kc2 := (K5.below hT).cell; have bo := (hb.below T5).below hT; have b1 := bo.at_ (j := 1) (by omega); have b8 := bo.at_ (j := 8) (by omega); have b9 := bo.at_ (j := 9) (by omega); have rl := (R5.below hT).lt); refine Goes.mk ?_; go_simp; first | exact goes_v | exact goes_b (by assumption) | (refine goes_enter ?_; first | (go_at_call 47; ((with_reducible refine (get16_any (some ⟨b, off, none⟩) n c l 4 wo bo).mono ?_); rintro e w2 ⟨rfl, hD2⟩); exact ret_v hD2.bel) | (go_at_call 63; ((with_reducible refine (get32_any (some ⟨b, off, none⟩) n c l 12 wo bo).mono ?_); rintro e w2 ⟨rfl, hD2⟩); exact ret_v hD2.bel) | (go_at_call 63; ((with_reducible refine (get32_any (some ⟨b, off, none⟩) n c l 16 wo bo).mono ?_); rintro e w2 ⟨rfl, hD2⟩); exact ret_v hD2.bel) | (go_at_call 64; ((with_reducible refine (clone_any A2 n2 c2 _ wo ((hbB.below T5).below hT)).mono ?_); rintro e w2 ⟨A9, c9, rfl, ho9, hB9⟩); exact ret_p (own_isF ho9 rl) hB9) | (go_at_call 64; ((with_reducible refine (clone_any A3 n3 c3 _ wo ((hbC.below T5).below hT)).mono ?_); rintro e w2 ⟨A9, c9, rfl, ho9, hB9⟩); exact ret_p (own_isF ho9 rl) hB9)))) | (apply ObsK.b (by rfl); (intro wo hT; (repeat (first | (intro v hv; ((skip))) | (intro _ _ k; try have hcv := cv k))); (have kc2 := (K5.below hT).cell; have bo := (hb.below T5).below hT; have b1 := bo.at_ (j := 1) (by omega); have b8 := bo.at_ (j := 8) (by omega); have b9 := bo.at_ (j := 9) (by omega); have rl := (R5.below hT).lt); refine Goes.mk ?_; go_simp; first | exact goes_v | exact goes_b (by assumption) | (refine goes_enter ?_; first | (go_at_call 47; ((with_reducible refine (get16_any (some ⟨b, off, none⟩) n c l 4 wo bo).mono ?_); rintro e w2 ⟨rfl, hD2⟩); exact ret_v hD2.bel) | (go_at_call 63; ((with_reducible refine (get32_any (some ⟨b, off, none⟩) n c l 12 wo bo).mono ?_); rintro e w2 ⟨rfl, hD2⟩); exact ret_v hD2.bel) | (go_at_call 63; ((with_reducible refine (get32_any (some ⟨b, off, none⟩) n c l 16 wo bo).mono ?_); rintro e w2 ⟨rfl, hD2⟩); exact ret_v hD2.bel) | (go_at_call 64; ((with_reducible refine (clone_any A2 n2 c2 _ wo ((hbB.below T5).below hT)).mono ?_); rintro e w2 ⟨A9, c9, rfl, ho9, hB9⟩); exact ret_p (own_isF ho9 rl) hB9) | (go_at_call 64; ((with_reducible refine (clone_any A3 n3 c3 _ wo ((hbC.below T5).below hT)).mono ?_); rintro e w2 ⟨A9, c9, rfl, ho9, hB9⟩); exact ret_p (own_isF ho9 rl) hB9)))) | (apply ObsK.p (q := isF w.heap.size _ _) (by rfl) st_isF; (intro wo hT; (repeat (first | (intro v hv; ((skip))) | (intro _ _ k; try have hcv := cv k))); (have kc2 := (K5.below hT).cell; have bo := (hb.below T5).below hT; have b1 := bo.at_ (j := 1) (by omega); have b8 := bo.at_ (j := 8) (by omega); have b9 := bo.at_ (j := 9) (by omega); have rl := (R5.below hT).lt); refine Goes.mk ?_; go_simp; first | exact goes_v | exact goes_b (by assumption) | (refine goes_enter ?_; first | (go_at_call 47; ((with_reducible refine (get16_any (some ⟨b, off, none⟩) n c l 4 wo bo).mono ?_); rintro e w2 ⟨rfl, hD2⟩); exact ret_v hD2.bel) | (go_at_call 63; ((with_reducible refine (get32_any (some ⟨b, off, none⟩) n c l 12 wo bo).mono ?_); rintro e w2 ⟨rfl, hD2⟩); exact ret_v hD2.bel) | (go_at_call 63; ((with_reducible refine (get32_any (some ⟨b, off, none⟩) n c l 16 wo bo).mono ?_); rintro e w2 ⟨rfl, hD2⟩); exact ret_v hD2.bel) | (go_at_call 64; ((with_reducible refine (clone_any A2 n2 c2 _ wo ((hbB.below T5).below hT)).mono ?_); rintro e w2 ⟨A9, c9, rfl, ho9, hB9⟩); exact ret_p (own_isF ho9 rl) hB9) | (go_at_call 64; ((with_reducible refine (clone_any A3 n3 c3 _ wo ((hbC.below T5).below hT)).mono ?_); rintro e w2 ⟨A9, c9, rfl, ho9, hB9⟩); exact ret_p (own_isF ho9 rl) hB9)))))); refine ObsK.nil ?_; intro wz hBz; simp only [finOn, List.drop_succ_cons, List.drop_zero, List.drop_nil]
            intro v9 hv9 v10 hv10
            obtain ⟨A9, c9, rfl, k9, a9⟩ := hv9
            obtain ⟨A10, c10, rfl, k10, a10⟩ := hv10
            go_simp
            have R6 := R5.below hBz
            have rc := R6.cell
            have T6 := below_then T5 hBz
            have hwr : w0.heap.size ≤ w.heap.size := T.size
            go_wp2_with fail
            obtain ⟨wf, hwf, S⟩ := store9 R6 (.int .u8 (bt l 1)) (.int .u16 (get16 l 4)) (.bool (f != 0)) (.int .u8 (bt l 8)) (.int .u8 (bt l 9)) (.int .u32 (get32 l 12)) (.int .u32 (get32 l 16)) (.slice A10 n2 c10) (.slice A9 n3 c9)
            rw [hwf]
            have TF := S.bel T6 hwr
            have k9' := S.bs k9 (gt_ne a9)
            have k10' := S.bs k10 (gt_ne a10)
            have kr := S.blk.cell
            clear hwf S R6 rc T6 k9 k10
            have e1 : f = get16 l 6 := HF.out.symm
            have e2 : (rdP l).opt = List.drop 20 (List.take h.toNat l) := by rw [← HH.out]; rfl
            have e3 : (rdP l).dat = List.drop h.toNat (List.take m.toNat l) := by rw [← HH.out, ← HM.out]; rfl
            refine bodyPost_ret (v := .agg #[.int .u8 (bt l 1), .int .u16 (get16 l 4), .bool (f != 0), .int .u8 (bt l 8), .int .u8 (bt l 9), .int .u32 (get32 l 12), .int .u32 (get32 l 16), .slice A10 n2 c10, .slice A9 n3 c9]) (by simp [results, Try.results78, go_sem, kr]) rfl ⟨TF, fun _ => ⟨A10, n2, c10, A9, n3, c9, by rw [e1]; rfl, by rw [e2]; exact k10', by rw [e3]; exact k9', fun a e => by have := a10 a e; omega, fun a e => by have := a9 a e; omega⟩, fun hx => absurd HE.out hx⟩
          · rw [decide_eq_false h8]
            refine (may_no _ _).mono ?_
            rintro e w' ⟨rfl, rfl⟩
            have hq : q = true := by
              cases q with
              | true => rfl
              | false => have := HLE.out; simp at this; omega
            have hl8 : le = 8 := by rw [HLE.out, if_pos hq]
            exact ⟨rfl, pkPost_no 3 (by unfold rdE; rw [if_neg (by omega), hh, if_neg (by rw [hs]; omega), hf, if_neg (by omega), if_neg (by omega), hm, if_pos ⟨hq, by omega⟩]) (by omega) T5⟩
      · rw [show (f % 16384 == 0) = false from by simpa using h6]
        refine (may_no _ _).mono ?_
        rintro e w' ⟨rfl, rfl⟩
        exact ⟨rfl, pkPost_no 7 (by unfold rdE; rw [if_neg (by omega), hh, if_neg (by rw [hs]; omega), hf, if_pos h6]) (by omega) T4⟩
    · rw [show (s == 0) = false from by simpa using h5]
      refine (may_no _ _).mono ?_
      rintro e w' ⟨rfl, rfl⟩
      exact ⟨rfl, pkPost_no 5 (by unfold rdE; rw [if_neg (by omega), hh, if_pos (by rw [hs]; exact h5)]) (by omega) T3⟩
  · have hx := hP.no hE0
    subst hx
    exact ⟨rfl, pkPost_no (lenE q l) (by unfold rdE; rw [if_pos hE0]) hE0 hP.bel⟩
end Go.Proofs.Ythgoffbfgdgkpaa

namespace Go.Proofs.Ythgoffbfgdgkpaa
open Go.RowKit
set_option linter.unusedVariables false
set_option linter.unusedSimpArgs false
set_option maxHeartbeats 4000000
set_option maxRecDepth 100000

theorem catch_fault (a b : Nat) (x e : Int) (c0 c1 c2 c3 c4 c5 c6 c7 c8 : Value) (w : World) (hab : a ≠ b) (K : Blk w a #[c0, c1, c2, c3, c4, c5, c6, c7, c8] 26) (L : Blk w b #[.int .i64 x] 29) :
    CallsD Try.prog 77 #[.pointer (some ⟨a, 0, none⟩), .pointer (some ⟨b, 0, none⟩)] (.panicking [{ v := fault e, recovered := false }]) w fun r u' w' =>
      r = .returned (.tuple #[]) ∧ u' = .panicking [{ v := fault e, recovered := true }] ∧ Blk w' a #[.int .u8 0, .int .u16 0, .bool false, .int .u8 0, .int .u8 0, .int .u32 0, .int .u32 0, .slice none 0 0, .slice none 0 0] 26 ∧ Blk w' b #[.int .i64 e] 29 ∧
        (∀ B w0, Below B w0 w → B ≤ a → B ≤ b → Below B w0 w') := by
  have hta : ∀ (W : World) (v : Value), (Instr.typeAssert (.iface 108 v) 20 108 true).run Try.prog W = .ok (.tuple #[v, .bool true]) W := fun W v => by kernel_rfl
  have ka := K.cell
  have kb := L.cell
  have la := K.lt
  have lb := L.lt
  refine callsD_of_wpS Try.func77 rfl fun c₀ cs hu => ?_
  apply wpS_seq
  apply wpS_region
  simp [wpOpsS, go_sem, recoverD, hu, Try.ntmps77, Exit.thenS, fault]
  refine wpS_of_wp ?_
  simp only [List.size_toArray, List.length_cons, List.length_nil, Nat.reduceAdd, Nat.reduceSub, Array.replicate_succ, Array.replicate_zero, List.push_toArray, List.append_toArray, List.nil_append, List.cons_append, List.setIfInBounds_toArray, List.set_cons_zero, List.set_cons_succ]
  go_wp2_with fail
  have K1 := K.alloc (.cells #[.int .i64 e] 108)
  have L1 := L.alloc (.cells #[.int .i64 e] 108)
  have F1 := blk_new w #[.int .i64 e] 108 _ rfl
  have hB : ∀ B w0, Below B w0 w → B ≤ a → Below B w0 (w.alloc (.cells #[.int .i64 e] 108)) := fun B w0 h hB => h.alloc (by omega) _
  generalize hw1 : w.alloc (.cells #[.int .i64 e] 108) = w1 at *
  obtain ⟨f, hf⟩ : ∃ f, w.heap.size = f := ⟨_, rfl⟩
  rw [hf] at F1 la lb ⊢
  have nfa : a ≠ f := by omega
  have nfb : b ≠ f := by omega
  clear hw1 hf ka kb K L
  have ka := K1.cell
  have kb := L1.cell
  have kf := F1.cell
  have ra : ∀ (W : World) (j : Nat) (v : Value), (W.setCell ⟨a, j, none⟩ v).cell? ⟨f, 0, none⟩ = W.cell? ⟨f, 0, none⟩ := fun W j v => World.cell?_setCell_far W _ _ v nfa
  have rb : ∀ (W : World) (j : Nat) (v : Value), (W.setCell ⟨a, j, none⟩ v).cell? ⟨b, 0, none⟩ = W.cell? ⟨b, 0, none⟩ := fun W j v => World.cell?_setCell_far W _ _ v hab
  go_region
  go_wp2_with fail
  obtain ⟨w2, hw2, S⟩ := store9 K1 (.int .u8 0) (.int .u16 0) (.bool false) (.int .u8 0) (.int .u8 0) (.int .u32 0) (.int .u32 0) (.slice none 0 0) (.slice none 0 0)
  rw [hw2]
  have hfin : Blk (w2.setCell ⟨b, 0, none⟩ (.int .i64 e)).drew a #[.int .u8 0, .int .u16 0, .bool false, .int .u8 0, .int .u8 0, .int .u32 0, .int .u32 0, .slice none 0 0, .slice none 0 0] 26 ∧ Blk (w2.setCell ⟨b, 0, none⟩ (.int .i64 e)).drew b #[.int .i64 e] 29 ∧
      (∀ B w0, Below B w0 w → B ≤ a → B ≤ b → Below B w0 (w2.setCell ⟨b, 0, none⟩ (.int .i64 e)).drew) :=
    ⟨(S.blk.far ⟨b, 0, none⟩ (Ne.symm hab) _).drew, ((S.other (Ne.symm hab) L1).set_ 0 _).drew, fun B w0 h h1 h2 => below_drew ((S.bel (hB B w0 h h1) h1).setCell (p := ⟨b, 0, none⟩) h2 _)⟩
  exact ⟨rfl, _, rfl, .tuple #[], results_none rfl _ _ _, rfl, rfl, hfin⟩
theorem catch_idle (a b : Nat) (w : World) :
    CallsD Try.prog 77 #[.pointer (some ⟨a, 0, none⟩), .pointer (some ⟨b, 0, none⟩)] .returning w fun r u' w' => r = .returned (.tuple #[]) ∧ u' = .returning ∧ w = w' := by
  refine callsD_of_wpS Try.func77 rfl fun c₀ cs hu => ?_
  apply wpS_seq
  apply wpS_region
  simp [wpOpsS, go_sem, recoverD, hu, Try.ntmps77, Exit.thenS]
  refine wpS_of_wp ?_
  simp only [List.size_toArray, List.length_cons, List.length_nil, Nat.reduceAdd, Nat.reduceSub, Array.replicate_succ, Array.replicate_zero, List.push_toArray, List.append_toArray, List.nil_append, List.cons_append, List.setIfInBounds_toArray, List.set_cons_zero, List.set_cons_succ]
  go_wp2_with fail
  refine ⟨rfl, .returning, ?_, .tuple #[], results_none rfl _ _ _, rfl, rfl, rfl⟩
  rw [← hu]
structure RdPost (w : World) (q : Bool) (l : List UInt8) (e : Ending) (w' : World) : Prop where
  out : ∃ A1 n1 c1 A2 n2 c2, e = .returned (.tuple #[(.agg #[.int .u8 (rdPk q l).tos, .int .u16 (rdPk q l).id, .bool (rdPk q l).keep, .int .u8 (rdPk q l).ttl, .int .u8 (rdPk q l).proto, .int .u32 (rdPk q l).src, .int .u32 (rdPk q l).dst, .slice A1 n1 c1, .slice A2 n2 c2]), .int .i64 (rdE q l)]) ∧ Bs w' A1 n1 c1 (rdPk q l).opt ∧ Bs w' A2 n2 c2 (rdPk q l).dat ∧ (∀ a, A1 = some a → w.heap.size ≤ a.block) ∧ (∀ a, A2 = some a → w.heap.size ≤ a.block) ∧ Below w.heap.size w w'
theorem read_any (A : Option Addr) (n c : Nat) (l : List UInt8) (q : Bool) (le : Int) (hle : le = if q then 8 else 0) (w : World) (hb : Bs w A n c l) :
    Calls Try.prog 66 #[.slice A n c, .bool q, .int .i64 le] w (RdPost w q l) := by
  have hmf : ∀ (fn : Fn) (first cap : Array Value) (w : World), (Instr.makeFunc fn first cap).run Try.prog w = .ok (.func fn first cap) w := fun _ _ _ _ => rfl
  have HLE := Lib.hid hle
  clear hle
  go_enter_defers Try.func66, Try.ntmps66
  go_wp2_with fail
  obtain ⟨w0, hw0⟩ : ∃ w0, (w.alloc (.cells #[.int .u8 0, .int .u16 0, .bool false, .int .u8 0, .int .u8 0, .int .u32 0, .int .u32 0, .slice none 0 0, .slice none 0 0] 26)).alloc (.cells #[.int .i64 0] 29) = w0 := ⟨_, rfl⟩
  have P0 : Blk w0 w.heap.size #[.int .u8 0, .int .u16 0, .bool false, .int .u8 0, .int .u8 0, .int .u32 0, .int .u32 0, .slice none 0 0, .slice none 0 0] 26 := by rw [← hw0]; exact (blk_new w _ _ _ rfl).alloc _
  have E0 : Blk w0 (w.heap.size + 1) #[.int .i64 0] 29 := by rw [← hw0]; exact blk_new _ _ _ _ (by simp)
  have T0 : Below w.heap.size w w0 := by rw [← hw0]; (repeat (first | with_reducible exact Below.refl _ _ | with_reducible refine below_drew ?_ | with_reducible refine below_drewN ?_ _ | with_reducible refine below_alloc ?_ (Nat.le_refl _) _ | with_reducible refine Below.setCell ?_ (by first | exact Nat.le_refl _ | (simp only []; omega)) _ | with_reducible assumption))
  have hs : w0.heap.size = w.heap.size + 1 + 1 := by rw [← hw0]; simp
  have hb0 := hb.below T0
  obtain ⟨a, ha⟩ : ∃ a, w.heap.size = a := ⟨_, rfl⟩
  obtain ⟨b, hb'⟩ : ∃ b, a + 1 = b := ⟨_, rfl⟩
  rw [hw0, ← hs]
  rw [ha] at hs P0 E0
  rw [hb'] at hs E0
  rw [ha, hb']
  have hne : a ≠ b := by omega
  refine (packet_any w0 w0.heap.size A n c l q _ hb0 (below_alloc (Below.refl _ w0) (Nat.le_refl _) _) (Nat.le_refl _) (blk_new w0 _ _ _ rfl) le HLE.out).mono ?_
  intro e w1 hP
  have P1 := P0.below hP.bel
  have E1 := E0.below hP.bel
  have T1 := below_then T0 hP.bel
  clear hw0
  by_cases hE : rdE q l = 0
  · obtain ⟨A1, n1, c1, A2, n2, c2, rfl, k1, k2, a1, a2⟩ := hP.ok hE
    have hR : rdPk q l = rdP l := by unfold rdPk; rw [if_pos hE]
    obtain ⟨p, hp⟩ : ∃ p, rdP l = p := ⟨_, rfl⟩
    rw [hp] at k1 k2 hR ⊢
    have HE := Lib.hid hE
    have HR := Lib.hid hR
    have HA := Lib.hid ha
    have HB := Lib.hid hb'
    have HS := Lib.hid hs
    clear hE hP hp hR ha hb' hs
    have pc := P1.cell
    have ec := E1.cell
    have nb : ∀ (W : World) (j : Nat) (v : Value), (W.setCell ⟨a, j, none⟩ v).cell? ⟨b, 0, none⟩ = W.cell? ⟨b, 0, none⟩ := fun W j v => World.cell?_setCell_far W _ _ v hne
    go_wp2_with fail
    obtain ⟨w2, hw2, S⟩ := store9 P1 (.int .u8 p.tos) (.int .u16 p.id) (.bool p.keep) (.int .u8 p.ttl) (.int .u8 p.proto) (.int .u32 p.src) (.int .u32 p.dst) (.slice A1 n1 c1) (.slice A2 n2 c2)
    rw [hw2]
    have hsz := HA.out
    have hsb := HB.out
    have hss := HS.out
    have P3 := S.blk.far ⟨b, 0, none⟩ (Ne.symm hne) (.int .i64 0)
    have E3 : Blk (w2.setCell ⟨b, 0, none⟩ (.int .i64 0)) b #[.int .i64 0] 29 := (S.other (Ne.symm hne) E1).set_ 0 _
    have T3 := (S.bel T1 (by omega)).setCell (p := ⟨b, 0, none⟩) (by simp; omega) (.int .i64 0)
    have K1 := (S.bs k1 (fun x e => by have := a1 x e; omega)).away ⟨b, 0, none⟩ (fun x e => by have := a1 x e; simp; omega) (.int .i64 0)
    have K2 := (S.bs k2 (fun x e => by have := a2 x e; omega)).away ⟨b, 0, none⟩ (fun x e => by have := a2 x e; simp; omega) (.int .i64 0)
    clear hsz hsb hss hw2 S pc ec nb k1 k2 T1 P1 E1
    generalize w2.setCell ⟨b, 0, none⟩ (.int .i64 0) = w3 at *
    refine leaves_cons (f := 77) (args := #[.pointer (some ⟨a, 0, none⟩), .pointer (some ⟨b, 0, none⟩)]) (by simp) (by simp [go_sem]) ?_
    refine (catch_idle a b _).mono ?_
    rintro e u' w4 ⟨rfl, rfl, rfl⟩
    have pc := P3.cell
    have ec := E3.cell
    simp [Leaves, settle, results, Try.results66, go_sem, pc, ec]
    exact ⟨A1, n1, c1, A2, n2, c2, by rw [HR.out, HE.out], by rw [HR.out]; exact K1, by rw [HR.out]; exact K2, fun x e => Nat.le_trans T0.size (a1 x e), fun x e => Nat.le_trans T0.size (a2 x e), T3⟩
  · have hx := hP.no hE
    subst hx
    clear hP
    have HA := Lib.hid ha
    have HB := Lib.hid hb'
    have HS := Lib.hid hs
    clear ha hb' hs
    go_wp2_with fail
    refine leaves_cons (f := 77) (args := #[.pointer (some ⟨a, 0, none⟩), .pointer (some ⟨b, 0, none⟩)]) (by simp) (by simp [go_sem]) ?_
    refine (catch_fault a b _ _ _ _ _ _ _ _ _ _ _ _ hne P1 E1).mono ?_
    rintro e u' w2 ⟨rfl, rfl, P2, E2, hB⟩
    have pc := P2.cell
    have ec := E2.cell
    have T2 := hB _ _ T1 (by have := HA.out; omega) (by have := HA.out; have := HB.out; omega)
    simp [Leaves, settle, results, Try.results66, go_sem, pc, ec]
    have hR : rdPk q l = zP := by unfold rdPk; rw [if_neg hE]
    exact ⟨none, 0, 0, none, 0, 0, by rw [hR]; rfl, by rw [hR]; exact Bs.none_ _, by rw [hR]; exact Bs.none_ _, fun x e => (by cases e), fun x e => (by cases e), T2⟩
theorem ipQuote_any (A : Option Addr) (n c : Nat) (l : List UInt8) (w : World) (hb : Bs w A n c l) :
    Calls Try.prog 43 #[.slice A n c] w (RdPost w true l) := by
  go_enter Try.func43, Try.ntmps43
  go_wp2_with fail
  refine (read_any A n c l true 8 rfl _ (hb.alloc _)).mono ?_
  intro e w1 hP
  obtain ⟨A1, n1, c1, A2, n2, c2, rfl, k1, k2, a1, a2, T1⟩ := hP.out
  have P1 := (blk_new w #[.int .u8 0, .int .u16 0, .bool false, .int .u8 0, .int .u8 0, .int .u32 0, .int .u32 0, .slice none 0 0, .slice none 0 0] 26 _ rfl).below T1
  have T := below_then ((Below.refl _ w).alloc (Nat.le_refl _) _) T1
  clear hP T1
  have pc := P1.cell
  generalize hp : rdPk true l = p at *
  generalize he : rdE true l = e at *
  have HP := Lib.hid hp
  have HE := Lib.hid he
  clear hp he
  go_wp2_with fail
  obtain ⟨w2, hw2, S⟩ := store9 P1 (.int .u8 p.tos) (.int .u16 p.id) (.bool p.keep) (.int .u8 p.ttl) (.int .u8 p.proto) (.int .u32 p.src) (.int .u32 p.dst) (.slice A1 n1 c1) (.slice A2 n2 c2)
  rw [hw2]
  have K1 := S.bs k1 (fun x e => by have := a1 x e; simp at this; omega)
  have K2 := S.bs k2 (fun x e => by have := a2 x e; simp at this; omega)
  have TF := S.bel T (Nat.le_refl _)
  have pf := S.blk.cell
  clear hw2 S P1 pc k1 k2 T
  refine bodyPost_ret (v := .tuple #[(.agg #[.int .u8 (p).tos, .int .u16 (p).id, .bool (p).keep, .int .u8 (p).ttl, .int .u8 (p).proto, .int .u32 (p).src, .int .u32 (p).dst, .slice A1 n1 c1, .slice A2 n2 c2]), .int .i64 e]) (by simp [results, Try.results43, go_sem, pf]) rfl ⟨A1, n1, c1, A2, n2, c2, by rw [HP.out, HE.out], by rw [HP.out]; exact K1, by rw [HP.out]; exact K2, fun x e => by have := a1 x e; simp at this; omega, fun x e => by have := a2 x e; simp at this; omega, TF⟩
end Go.Proofs.Ythgoffbfgdgkpaa

namespace Go.Proofs.Ythgoffbfgdgkpaa
open Go.RowKit
set_option linter.unusedVariables false
set_option linter.unusedSimpArgs false
set_option maxHeartbeats 4000000
set_option maxRecDepth 100000

def qEch (l : List UInt8) : Bool := isEchoM ⟨bt l 0, bt l 1, 0, []⟩
def inE (q : Pkt) : Int := if q.proto = 6 then 0 else if q.proto = 17 then 0 else if q.proto = 1 then (if qEch q.dat = false then 12 else 0) else if q.proto = 47 then (if begB q.dat = false then 4 else 0) else 12
def inA (q : Pkt) : Int := if q.proto = 6 then get16 q.dat 0 else if q.proto = 17 then get16 q.dat 0 else if q.proto = 1 then get16 q.dat 4 else 0
def inB (q : Pkt) : Int := if q.proto = 6 then get16 q.dat 2 else if q.proto = 17 then get16 q.dat 2 else if q.proto = 1 then get16 q.dat 4 else get16 q.dat 6
def inT (q : Pkt) : Tup := tuP q (inA q) (inB q) (inE q)
def quE (p : Pkt) : Int := if icE p ≠ 0 then icE p else if isErrM (icM p) = false then 12 else if rdE true (icM p).dat ≠ 0 then rdE true (icM p).dat else inE (rdPk true (icM p).dat)
def quQ (p : Pkt) : Pkt := if quE p = 0 then rdPk true (icM p).dat else zP
def quT (p : Pkt) : Tup := if quE p = 0 then inT (rdPk true (icM p).dat) else zT
theorem rd_8 {l : List UInt8} (h : rdE true l = 0) : 8 ≤ (rdPk true l).dat.length := by
  have hr := h
  unfold rdE at h
  split at h
  · rename_i h1; exact absurd h h1
  rename_i h1
  have h1' : lenE true l = 0 := by simpa using h1
  obtain ⟨f1, f2, f3, f4, f5, f6, f7, f8, f9⟩ := len_facts h1'
  split at h
  · cases h
  split at h
  · cases h
  split at h
  · cases h
  split at h
  · cases h
  rename_i h5
  unfold rdPk
  rw [if_pos hr]
  unfold rdP
  simp only [List.length_drop, List.length_take]
  have h6 : ¬ (alOf l - hdOf l < 8) := by
    intro hc
    exact h5 ⟨rfl, hc⟩
  omega
theorem quE_ways (p : Pkt) : (quE p = icE p ∧ icE p ≠ 0) ∨ (quE p = 12 ∧ icE p = 0 ∧ isErrM (icM p) = false) ∨ (icE p = 0 ∧ isErrM (icM p) = true ∧ rdE true (icM p).dat ≠ 0 ∧ quE p = rdE true (icM p).dat) ∨
    (icE p = 0 ∧ isErrM (icM p) = true ∧ rdE true (icM p).dat = 0 ∧ quE p = inE (rdPk true (icM p).dat)) := by
  unfold quE
  by_cases h1 : icE p = 0
  · rw [if_neg (by simp [h1])]
    cases h2 : isErrM (icM p)
    · right; left; simp [h1]
    · rw [if_neg (by simp)]
      by_cases h3 : rdE true (icM p).dat = 0
      · right; right; right; simp [h1, h3]
      · right; right; left; simp [h1, h3]
  · left; simp [h1]
theorem quT_no {p : Pkt} (h : quE p ≠ 0) : quT p = zT ∧ quQ p = zP := by unfold quT quQ; rw [if_neg h, if_neg h]; exact ⟨rfl, rfl⟩
theorem quT_in {p : Pkt} (h : quE p = inE (rdPk true (icM p).dat)) : quT p = inT (rdPk true (icM p).dat) := by
  unfold quT
  split
  · rfl
  · rename_i h1
    rw [h] at h1
    unfold inT tuP
    rw [if_pos h1]
theorem get32_bytes {l : List UInt8} (h : 4 ≤ l.length) : get32 l 0 = ((bt l 0 * 256 + bt l 1) * 256 + bt l 2) * 256 + bt l 3 := by
  rw [get32_in (by omega) (by omega), get16_in (by omega) (by omega), get16_in (by omega) (by omega)]
  show (bt l 0 * 256 + bt l 1) * 65536 + (bt l 2 * 256 + bt l 3) = _
  omega
theorem beg_get32 {l : List UInt8} (h : 8 ≤ l.length) : (get32 (gL ⟨0, bt l 0 == 48, bt l 1 == 129, 0, 0, []⟩) 0 != get32 l 0) = !begB l := by
  obtain ⟨f, hf⟩ : ∃ f : Frm, (⟨0, bt l 0 == 48, bt l 1 == 129, 0, 0, []⟩ : Frm) = f := ⟨_, rfl⟩
  have hfo : f.Ok := by rw [← hf]; exact ⟨by constructor <;> simp, by constructor <;> simp, by constructor <;> simp⟩
  obtain ⟨g0, g1, g2, g3, -, -⟩ := gH_at f hfo (by rw [← hf]; simp) f.dat
  have hL : 8 ≤ (gL f).length := by rw [gL_len]; unfold gN; omega
  rw [hf, get32_bytes (l := l) (by omega), get32_bytes (l := gL f) (by omega)]
  have e : gL f = gH f ++ f.dat := rfl
  rw [← e] at g0 g1 g2 g3
  rw [g0, g1, g2, g3, ← hf]
  have a0 := bt_lo l 0
  have a1 := bt_hi l 0
  have b0 := bt_lo l 1
  have b1 := bt_hi l 1
  have c0 := bt_lo l 2
  have c1 := bt_hi l 2
  have d0 := bt_lo l 3
  have d1 := bt_hi l 3
  unfold begB b0F b1F
  clear hL g0 g1 g2 g3 e hf hfo h
  obtain ⟨a, ha⟩ : ∃ a, bt l 0 = a := ⟨_, rfl⟩
  obtain ⟨b, hb⟩ : ∃ a, bt l 1 = a := ⟨_, rfl⟩
  obtain ⟨c, hc⟩ : ∃ a, bt l 2 = a := ⟨_, rfl⟩
  obtain ⟨d, hd⟩ : ∃ a, bt l 3 = a := ⟨_, rfl⟩
  rw [ha] at a0 a1 ⊢
  rw [hb] at b0 b1 ⊢
  rw [hc] at c0 c1 ⊢
  rw [hd] at d0 d1 ⊢
  clear ha hb hc hd
  rw [Bool.eq_iff_iff]
  simp only [bne_iff_ne, Bool.not_eq_true', Bool.and_eq_false_iff, Bool.or_eq_false_iff, beq_eq_false_iff_ne, beq_iff_eq]
  by_cases h1 : a = 48 <;> by_cases h2 : b = 129 <;> simp only [h1, h2, if_true, if_false] <;> omega
theorem inE_ways (q : Pkt) : (q.proto = 6 ∧ inE q = 0 ∧ inA q = get16 q.dat 0 ∧ inB q = get16 q.dat 2) ∨ (q.proto = 17 ∧ inE q = 0 ∧ inA q = get16 q.dat 0 ∧ inB q = get16 q.dat 2) ∨
    (q.proto = 1 ∧ inE q = (if qEch q.dat = false then 12 else 0) ∧ inA q = get16 q.dat 4 ∧ inB q = get16 q.dat 4) ∨ (q.proto = 47 ∧ inE q = (if begB q.dat = false then 4 else 0) ∧ inA q = 0 ∧ inB q = get16 q.dat 6) ∨
    (q.proto ≠ 6 ∧ q.proto ≠ 17 ∧ q.proto ≠ 1 ∧ q.proto ≠ 47 ∧ inE q = 12) := by
  unfold inE inA inB
  by_cases h6 : q.proto = 6
  · left; rw [h6]; simp
  by_cases h17 : q.proto = 17
  · right; left; rw [h17]; simp
  by_cases h1 : q.proto = 1
  · right; right; left; rw [h1]; simp
  by_cases h47 : q.proto = 47
  · right; right; right; left; rw [h47]; simp
  right; right; right; right; simp [h6, h17, h1, h47]
end Go.Proofs.Ythgoffbfgdgkpaa

namespace Go.Proofs.Ythgoffbfgdgkpaa
open Go.RowKit
set_option linter.unusedVariables false
set_option linter.unusedSimpArgs false
set_option linter.unusedSimpArgs false
set_option maxHeartbeats 8000000
set_option maxRecDepth 100000

structure WyPost (w : World) (x y E : Int) (e : Ending) (w' : World) : Prop where
  out : ∃ a b, e = .returned (.tuple #[.agg #[.int .u16 a, .int .u16 b], .int .i64 E]) ∧ (E = 0 → a = x ∧ b = y) ∧ Below w.heap.size w w'
theorem ktwo_any (p : Pkt) (A1 : Option Addr) (n1 c1 : Nat) (A2 : Option Addr) (n2 c2 : Nat) (w : World) (k2 : Bs w A2 n2 c2 p.dat) :
    Calls Try.prog 46 #[(.agg #[.int .u8 (p).tos, .int .u16 (p).id, .bool (p).keep, .int .u8 (p).ttl, .int .u8 (p).proto, .int .u32 (p).src, .int .u32 (p).dst, .slice A1 n1 c1, .slice A2 n2 c2])] w (WyPost w (get16 p.dat 0) (get16 p.dat 2) 0) := by
  have c0 := fun W h => get16_any A2 n2 c2 p.dat 0 W h
  have c2' := fun W h => get16_any A2 n2 c2 p.dat 2 W h
  obtain ⟨g0, hg0⟩ : ∃ g, get16 p.dat 0 = g := ⟨_, rfl⟩
  obtain ⟨g2, hg2⟩ : ∃ g, get16 p.dat 2 = g := ⟨_, rfl⟩
  rw [hg0] at c0
  rw [hg2] at c2'
  rw [hg0, hg2]
  clear hg0 hg2
  obtain ⟨k, hk⟩ : ∃ k : Nat, w.heap.size = k := ⟨_, rfl⟩
  obtain ⟨w1, hw1⟩ : ∃ W, ((w.alloc (.cells #[.int .u8 (p).tos, .int .u16 (p).id, .bool (p).keep, .int .u8 (p).ttl, .int .u8 (p).proto, .int .u32 (p).src, .int .u32 (p).dst, .slice A1 n1 c1, .slice A2 n2 c2] 26)).alloc (.cells #[.int .u16 0, .int .u16 0] 66)) = W := ⟨_, rfl⟩
  have P1 : Blk w1 k #[.int .u8 (p).tos, .int .u16 (p).id, .bool (p).keep, .int .u8 (p).ttl, .int .u8 (p).proto, .int .u32 (p).src, .int .u32 (p).dst, .slice A1 n1 c1, .slice A2 n2 c2] 26 := by rw [← hw1]; exact ((blk_new _ _ _ k (by simp [hk])).alloc _)
  have Z1 : Blk w1 (k + 1) #[.int .u16 0, .int .u16 0] 66 := by rw [← hw1]; exact (blk_new _ _ _ (k + 1) (by simp [hk]))
  have R1 : Below w.heap.size w w1 := by rw [← hw1]; (repeat (first | with_reducible exact Below.refl _ _ | with_reducible refine below_drew ?_ | with_reducible refine below_drewN ?_ _ | with_reducible refine below_alloc ?_ (Nat.le_refl _) _ | with_reducible refine Below.setCell ?_ (by first | exact Nat.le_refl _ | (simp only []; omega)) _ | with_reducible assumption))
  have Pc1 := P1.cell
  have Zc1 := Z1.cell
  have Pl1 := P1.lt
  have Zl1 := Z1.lt
  have x1 := (k2).below R1
  go_enter Try.func46, Try.ntmps46
  go_wp2_with fail
  refine region_txt 7 (by kernel_rfl) (by kernel_rfl) ?_; (iterate 7 (first | (apply ObsK.skip (by rfl)) | (apply ObsK.v (by rfl); (intro wo hT; (repeat (first | (intro _ _ k; try have hcv := cv k))); (have pc := (P1.below hT).cell; have x2 := x1.below hT); refine Goes.mk ?_; go_simp; first | exact goes_v | exact goes_b (by assumption) | (refine goes_enter ?_; first | (go_at_call 47; ((with_reducible refine (c0 wo x2).mono ?_); rintro e w5 ⟨rfl, hD5⟩); exact ret_v hD5.bel) | (go_at_call 47; ((with_reducible refine (c2' wo x2).mono ?_); rintro e w5 ⟨rfl, hD5⟩); exact ret_v hD5.bel)))) | (apply ObsK.b (by rfl); (intro wo hT; (repeat (first | (intro _ _ k; try have hcv := cv k))); (have pc := (P1.below hT).cell; have x2 := x1.below hT); refine Goes.mk ?_; go_simp; first | exact goes_v | exact goes_b (by assumption) | (refine goes_enter ?_; first | (go_at_call 47; ((with_reducible refine (c0 wo x2).mono ?_); rintro e w5 ⟨rfl, hD5⟩); exact ret_v hD5.bel) | (go_at_call 47; ((with_reducible refine (c2' wo x2).mono ?_); rintro e w5 ⟨rfl, hD5⟩); exact ret_v hD5.bel)))))); refine ObsK.nil ?_; intro wz hBz; simp only [finOn, List.drop_succ_cons, List.drop_zero, List.drop_nil]
  go_simp
  have P2 := P1.below hBz
  have Pc2 := P2.cell
  clear Pc1
  have Z2 := Z1.below hBz
  have Zc2 := Z2.cell
  clear Zc1
  have x2 := x1.below hBz
  have R2 := below_then R1 hBz
  go_wp2_with fail
  obtain ⟨wf, hwf, Sf⟩ := store2 Z2 (.int .u16 g0) (.int .u16 g2)
  rw [hwf]
  have pf := Sf.blk.cell
  exact bodyPost_ret (v := .tuple #[.agg #[.int .u16 g0, .int .u16 g2], .int .i64 0]) (by simp [results, Try.results46, go_sem, pf]) rfl ⟨_, _, rfl, (fun _ => ⟨rfl, rfl⟩), Sf.bel R2 (by omega)⟩

theorem qecho_any (p : Pkt) (A1 : Option Addr) (n1 c1 : Nat) (A2 : Option Addr) (n2 c2 : Nat) (w : World) (k2 : Bs w A2 n2 c2 p.dat) (h8 : 8 ≤ n2) :
    Calls Try.prog 51 #[(.agg #[.int .u8 (p).tos, .int .u16 (p).id, .bool (p).keep, .int .u8 (p).ttl, .int .u8 (p).proto, .int .u32 (p).src, .int .u32 (p).dst, .slice A1 n1 c1, .slice A2 n2 c2])] w (WyPost w (get16 p.dat 4) (get16 p.dat 4) (if qEch p.dat = false then 12 else 0)) := by
  have cg := fun W h => get16_any A2 n2 c2 p.dat 4 W h
  have hmo : (⟨bt p.dat 0, bt p.dat 1, 0, []⟩ : Msg).Ok := ⟨⟨bt_lo _ _, bt_hi _ _⟩, ⟨bt_lo _ _, bt_hi _ _⟩, by constructor <;> simp⟩
  have ce := fun W => isecho_any ⟨bt p.dat 0, bt p.dat 1, 0, []⟩ hmo none 0 0 W
  obtain ⟨g, hg⟩ : ∃ g, get16 p.dat 4 = g := ⟨_, rfl⟩
  obtain ⟨b, hb⟩ : ∃ b, qEch p.dat = b := ⟨_, rfl⟩
  rw [show isEchoM ⟨bt p.dat 0, bt p.dat 1, 0, []⟩ = b from hb] at ce
  rw [hg] at cg
  rw [hb, hg]
  clear hb hg hmo
  obtain ⟨bb, off, rfl⟩ := k2.some_ (by omega)
  have q0 : 0 < n2 := by omega
  have q0' : (0 : Int) < n2 := by omega
  have q1 : (1 : Int) < n2 := by omega
  have b2 := k2.max
  obtain ⟨k, hk⟩ : ∃ k : Nat, w.heap.size = k := ⟨_, rfl⟩
  obtain ⟨w1, hw1⟩ : ∃ W, ((w.alloc (.cells #[.int .u8 (p).tos, .int .u16 (p).id, .bool (p).keep, .int .u8 (p).ttl, .int .u8 (p).proto, .int .u32 (p).src, .int .u32 (p).dst, .slice A1 n1 c1, .slice (some ⟨bb, off, none⟩) n2 c2] 26)).alloc (.cells #[.int .u16 0, .int .u16 0] 66)) = W := ⟨_, rfl⟩
  have P1 : Blk w1 k #[.int .u8 (p).tos, .int .u16 (p).id, .bool (p).keep, .int .u8 (p).ttl, .int .u8 (p).proto, .int .u32 (p).src, .int .u32 (p).dst, .slice A1 n1 c1, .slice (some ⟨bb, off, none⟩) n2 c2] 26 := by rw [← hw1]; exact ((blk_new _ _ _ k (by simp [hk])).alloc _)
  have Z1 : Blk w1 (k + 1) #[.int .u16 0, .int .u16 0] 66 := by rw [← hw1]; exact (blk_new _ _ _ (k + 1) (by simp [hk]))
  have R1 : Below w.heap.size w w1 := by rw [← hw1]; (repeat (first | with_reducible exact Below.refl _ _ | with_reducible refine below_drew ?_ | with_reducible refine below_drewN ?_ _ | with_reducible refine below_alloc ?_ (Nat.le_refl _) _ | with_reducible refine Below.setCell ?_ (by first | exact Nat.le_refl _ | (simp only []; omega)) _ | with_reducible assumption))
  have Pc1 := P1.cell
  have Zc1 := Z1.cell
  have Pl1 := P1.lt
  have Zl1 := Z1.lt
  have x1 := (k2).below R1
  cases b
  · skip
    go_enter Try.func51, Try.ntmps51
    go_wp2_with fail
    refine region_txt 11 (by kernel_rfl) (by kernel_rfl) ?_; (iterate 11 (first | (apply ObsK.skip (by rfl)) | (apply ObsK.v (by rfl); (intro wo hT; (repeat (first | (intro _ _ k; try have hcv := cv k))); (have pc := (P1.below hT).cell; have bo := x1.below hT; have c0 := bo.at_ (j := 0) (by omega); rw [Nat.add_zero] at c0; have c1 := bo.at_ (j := 1) (by omega)); refine Goes.mk ?_; go_simp; first | exact goes_v | exact goes_b (by assumption) | (refine goes_enter ?_; first | (go_at_call 72; ((with_reducible refine (ce wo).mono ?_); rintro e w5 ⟨rfl, hD5⟩); exact ret_v hD5)))) | (apply ObsK.b (by rfl); (intro wo hT; (repeat (first | (intro _ _ k; try have hcv := cv k))); (have pc := (P1.below hT).cell; have bo := x1.below hT; have c0 := bo.at_ (j := 0) (by omega); rw [Nat.add_zero] at c0; have c1 := bo.at_ (j := 1) (by omega)); refine Goes.mk ?_; go_simp; first | exact goes_v | exact goes_b (by assumption) | (refine goes_enter ?_; first | (go_at_call 72; ((with_reducible refine (ce wo).mono ?_); rintro e w5 ⟨rfl, hD5⟩); exact ret_v hD5)))))); refine ObsK.nil ?_; intro wz hBz; simp only [finOn, List.drop_succ_cons, List.drop_zero, List.drop_nil]
    go_simp
    have P2 := P1.below hBz
    have Pc2 := P2.cell
    clear Pc1
    have Z2 := Z1.below hBz
    have Zc2 := Z2.cell
    clear Zc1
    have x2 := x1.below hBz
    have R2 := below_then R1 hBz
    go_wp2_with fail
    obtain ⟨wf, hwf, Sf⟩ := store2 Z2 (.int .u16 0) (.int .u16 0)
    rw [hwf]
    have pf := Sf.blk.cell
    exact bodyPost_ret (v := .tuple #[.agg #[.int .u16 0, .int .u16 0], .int .i64 12]) (by simp [results, Try.results51, go_sem, pf]) rfl ⟨_, _, rfl, (fun h => by simp at h), Sf.bel R2 (by omega)⟩

  · skip
    go_enter Try.func51, Try.ntmps51
    go_wp2_with fail
    refine region_txt 11 (by kernel_rfl) (by kernel_rfl) ?_; (iterate 11 (first | (apply ObsK.skip (by rfl)) | (apply ObsK.v (by rfl); (intro wo hT; (repeat (first | (intro _ _ k; try have hcv := cv k))); (have pc := (P1.below hT).cell; have bo := x1.below hT; have c0 := bo.at_ (j := 0) (by omega); rw [Nat.add_zero] at c0; have c1 := bo.at_ (j := 1) (by omega)); refine Goes.mk ?_; go_simp; first | exact goes_v | exact goes_b (by assumption) | (refine goes_enter ?_; first | (go_at_call 72; ((with_reducible refine (ce wo).mono ?_); rintro e w5 ⟨rfl, hD5⟩); exact ret_v hD5)))) | (apply ObsK.b (by rfl); (intro wo hT; (repeat (first | (intro _ _ k; try have hcv := cv k))); (have pc := (P1.below hT).cell; have bo := x1.below hT; have c0 := bo.at_ (j := 0) (by omega); rw [Nat.add_zero] at c0; have c1 := bo.at_ (j := 1) (by omega)); refine Goes.mk ?_; go_simp; first | exact goes_v | exact goes_b (by assumption) | (refine goes_enter ?_; first | (go_at_call 72; ((with_reducible refine (ce wo).mono ?_); rintro e w5 ⟨rfl, hD5⟩); exact ret_v hD5)))))); refine ObsK.nil ?_; intro wz hBz; simp only [finOn, List.drop_succ_cons, List.drop_zero, List.drop_nil]
    go_simp
    have P2 := P1.below hBz
    have Pc2 := P2.cell
    clear Pc1
    have Z2 := Z1.below hBz
    have Zc2 := Z2.cell
    clear Zc1
    have x2 := x1.below hBz
    have R2 := below_then R1 hBz
    go_wp2_with (go_at_call 47; ((with_reducible refine (cg wz x2).mono ?_); rintro e w3 ⟨rfl, hD3⟩); have hB3 := hD3.bel; have P3 := P2.below hB3; have Pc3 := P3.cell; clear Pc2; have Z3 := Z2.below hB3; have Zc3 := Z3.cell; clear Zc2; have x3 := x2.below hB3; have R3 := below_then R2 hB3)
    obtain ⟨wf, hwf, Sf⟩ := store2 Z3 (.int .u16 g) (.int .u16 g)
    rw [hwf]
    have pf := Sf.blk.cell
    exact bodyPost_ret (v := .tuple #[.agg #[.int .u16 g, .int .u16 g], .int .i64 0]) (by simp [results, Try.results51, go_sem, pf]) rfl ⟨_, _, rfl, fun _ => ⟨rfl, rfl⟩, Sf.bel R3 (by omega)⟩

theorem qframe_any (p : Pkt) (A1 : Option Addr) (n1 c1 : Nat) (A2 : Option Addr) (n2 c2 : Nat) (w : World) (k2 : Bs w A2 n2 c2 p.dat) (h8 : 8 ≤ n2) :
    Calls Try.prog 53 #[(.agg #[.int .u8 (p).tos, .int .u16 (p).id, .bool (p).keep, .int .u8 (p).ttl, .int .u8 (p).proto, .int .u32 (p).src, .int .u32 (p).dst, .slice A1 n1 c1, .slice A2 n2 c2])] w (WyPost w 0 (get16 p.dat 6) (if begB p.dat = false then 4 else 0)) := by
  have l2 := k2.len
  have hbeg := beg_get32 (l := p.dat) (by omega)
  obtain ⟨b0, hb0⟩ : ∃ b, bt p.dat 0 = b := ⟨_, rfl⟩
  obtain ⟨b1, hb1⟩ : ∃ b, bt p.dat 1 = b := ⟨_, rfl⟩
  obtain ⟨s, hs⟩ : ∃ s, (b0 == 48) = s := ⟨_, rfl⟩
  obtain ⟨a, ha⟩ : ∃ s, (b1 == 129) = s := ⟨_, rfl⟩
  rw [hb0, hb1, hs, ha] at hbeg
  have hfo : (⟨0, s, a, 0, 0, []⟩ : Frm).Ok := ⟨by constructor <;> simp, by constructor <;> simp, by constructor <;> simp⟩
  have hbad : gBad ⟨0, s, a, 0, 0, []⟩ = false := by unfold gBad; simp
  have hE : bgE zP ⟨0, s, a, 0, 0, []⟩ = 0 := by
    unfold bgE wiE gN
    rw [hbad]
    cases s <;> cases a <;> simp [zP]
  have hP := bgP_ok hE
  obtain ⟨L, hL⟩ : ∃ L, gL ⟨0, s, a, 0, 0, []⟩ = L := ⟨_, rfl⟩
  rw [hL] at hP hbeg
  have cb : ∀ W, Calls Try.prog 74 #[.agg #[.int .u8 0, .int .u16 0, .bool false, .int .u8 0, .int .u8 0, .int .u32 0, .int .u32 0, .slice none 0 0, .slice none 0 0], .agg #[.int .u16 0, .bool s, .bool a, .int .u32 0, .int .u32 0, .slice none 0 0]] W fun e w' => ∃ B1 m1 d1 B2 m2 d2, e = .returned (.tuple #[.agg #[.int .u8 0, .int .u16 0, .bool false, .int .u8 0, .int .u8 47, .int .u32 0, .int .u32 0, .slice B1 m1 d1, .slice B2 m2 d2], .int .i64 0]) ∧ Bs w' B2 m2 d2 L ∧ Below W.heap.size W w' := fun W => by
    refine (bg_any zP none 0 0 none 0 0 ⟨0, s, a, 0, 0, []⟩ hfo none 0 0 W (Bs.none_ _) (Bs.none_ _) (by omega)).mono fun e w' hq => ?_
    obtain ⟨B1, m1, d1, B2, m2, d2, rfl, -, h2, h3⟩ := hq.out
    rw [hP] at h2 ⊢
    rw [hE]
    exact ⟨B1, m1, d1, B2, m2, d2, rfl, h2.bs, h3⟩
  have cg := fun W h => get16_any A2 n2 c2 p.dat 6 W h
  have c3 := fun W h => get32_any A2 n2 c2 p.dat 0 W h
  have c4 := fun B m d W h => get32_any B m d L 0 W h
  obtain ⟨g, hg⟩ : ∃ g, get16 p.dat 6 = g := ⟨_, rfl⟩
  obtain ⟨y, hy⟩ : ∃ g, get32 p.dat 0 = g := ⟨_, rfl⟩
  obtain ⟨z, hz⟩ : ∃ g, get32 L 0 = g := ⟨_, rfl⟩
  obtain ⟨b, hb⟩ : ∃ b, begB p.dat = b := ⟨_, rfl⟩
  rw [hg] at cg
  rw [hy] at c3 hbeg
  rw [hz] at c4 hbeg
  rw [hb] at hbeg
  rw [hb, hg]
  clear hb hg hy hz hP hE hL hbad hfo l2
  obtain ⟨bb, off, rfl⟩ := k2.some_ (by omega)
  have q0 : 0 < n2 := by omega
  have q0' : (0 : Int) < n2 := by omega
  have q1 : (1 : Int) < n2 := by omega
  have b2 := k2.max
  obtain ⟨k, hk⟩ : ∃ k : Nat, w.heap.size = k := ⟨_, rfl⟩
  obtain ⟨w1, hw1⟩ : ∃ W, ((w.alloc (.cells #[.int .u8 (p).tos, .int .u16 (p).id, .bool (p).keep, .int .u8 (p).ttl, .int .u8 (p).proto, .int .u32 (p).src, .int .u32 (p).dst, .slice A1 n1 c1, .slice (some ⟨bb, off, none⟩) n2 c2] 26)).alloc (.cells #[.int .u16 0, .int .u16 0] 66)) = W := ⟨_, rfl⟩
  have P1 : Blk w1 k #[.int .u8 (p).tos, .int .u16 (p).id, .bool (p).keep, .int .u8 (p).ttl, .int .u8 (p).proto, .int .u32 (p).src, .int .u32 (p).dst, .slice A1 n1 c1, .slice (some ⟨bb, off, none⟩) n2 c2] 26 := by rw [← hw1]; exact ((blk_new _ _ _ k (by simp [hk])).alloc _)
  have Z1 : Blk w1 (k + 1) #[.int .u16 0, .int .u16 0] 66 := by rw [← hw1]; exact (blk_new _ _ _ (k + 1) (by simp [hk]))
  have R1 : Below w.heap.size w w1 := by rw [← hw1]; (repeat (first | with_reducible exact Below.refl _ _ | with_reducible refine below_drew ?_ | with_reducible refine below_drewN ?_ _ | with_reducible refine below_alloc ?_ (Nat.le_refl _) _ | with_reducible refine Below.setCell ?_ (by first | exact Nat.le_refl _ | (simp only []; omega)) _ | with_reducible assumption))
  have Pc1 := P1.cell
  have Zc1 := Z1.cell
  have Pl1 := P1.lt
  have Zl1 := Z1.lt
  have x1 := (k2).below R1
  have hcell : ∀ W, Bs W (some ⟨bb, off, none⟩) n2 c2 p.dat → W.cell? ⟨bb, off, none⟩ = some (.int .u8 b0) ∧ W.cell? ⟨bb, off + 1, none⟩ = some (.int .u8 b1) := fun W h => by
    have bo := h.at_ (j := 0) (by omega)
    rw [Nat.add_zero, hb0] at bo
    have bp := h.at_ (j := 1) (by omega)
    rw [hb1] at bp
    exact ⟨bo, bp⟩
  clear hb0 hb1
  cases b
  · skip
    go_enter Try.func53, Try.ntmps53
    go_wp2_with fail
    have ho := hcell w1 x1
    have Bv : Below w1.heap.size w1 w1.drew := by (repeat (first | with_reducible exact Below.refl _ _ | with_reducible refine below_drew ?_ | with_reducible refine below_drewN ?_ _ | with_reducible refine below_alloc ?_ (Nat.le_refl _) _ | with_reducible refine Below.setCell ?_ (by first | exact Nat.le_refl _ | (simp only []; omega)) _ | with_reducible assumption))
    go_region
    generalize w1.drew = wv at Bv ⊢
    have P2 := P1.below Bv
    have Pc2 := P2.cell
    clear Pc1
    have Z2 := Z1.below Bv
    have Zc2 := Z2.cell
    clear Zc1
    have x2 := x1.below Bv
    have R2 := below_then R1 Bv
    go_wp2_with (go_at_call 74; ((with_reducible refine (cb wv).mono ?_); rintro e u3 ⟨B1, m1, d1, B2, m2, d2, rfl, k3, hB3⟩); (obtain ⟨w3, hw3⟩ : ∃ W, u3.alloc (.cells #[.int .u8 0, .int .u16 0, .bool false, .int .u8 0, .int .u8 47, .int .u32 0, .int .u32 0, .slice B1 m1 d1, .slice B2 m2 d2] 26) = W := ⟨_, rfl⟩); have V3 : Below u3.heap.size u3 w3 := (by rw [← hw3]; (repeat (first | with_reducible exact Below.refl _ _ | with_reducible refine below_drew ?_ | with_reducible refine below_drewN ?_ _ | with_reducible refine below_alloc ?_ (Nat.le_refl _) _ | with_reducible refine Below.setCell ?_ (by first | exact Nat.le_refl _ | (simp only []; omega)) _ | with_reducible assumption))); (obtain ⟨kQ3, hkQ3⟩ : ∃ k : Nat, u3.heap.size = k := ⟨_, rfl⟩); have Q3 : Blk w3 kQ3 #[.int .u8 0, .int .u16 0, .bool false, .int .u8 0, .int .u8 47, .int .u32 0, .int .u32 0, .slice B1 m1 d1, .slice B2 m2 d2] 26 := (by rw [← hw3]; exact blk_new u3 _ _ _ hkQ3); have Qc3 := Q3.cell; have T3 := below_then hB3 V3; have y3 := (k3).below V3; have P3 := P2.below T3; have Pc3 := P3.cell; clear Pc2; have Z3 := Z2.below T3; have Zc3 := Z3.cell; clear Zc2; have x3 := x2.below T3; have R3 := below_then R2 T3)
    refine region_txt 7 (by kernel_rfl) (by kernel_rfl) ?_; (iterate 7 (first | (apply ObsK.skip (by rfl)) | (apply ObsK.v (by rfl); (intro wo hT; (repeat (first | (intro _ _ k; try have hcv := cv k))); (have pc := (P3.below hT).cell; have qc := (Q3.below hT).cell; have yo := y3.below hT; have xo := x3.below hT); refine Goes.mk ?_; go_simp; first | exact goes_v | exact goes_b (by assumption) | (refine goes_enter ?_; first | (go_at_call 63; ((with_reducible refine (c3 wo xo).mono ?_); rintro e w5 ⟨rfl, hD5⟩); exact ret_v hD5.bel) | (go_at_call 63; ((with_reducible refine (c4 B2 m2 d2 wo yo).mono ?_); rintro e w5 ⟨rfl, hD5⟩); exact ret_v hD5.bel)))) | (apply ObsK.b (by rfl); (intro wo hT; (repeat (first | (intro _ _ k; try have hcv := cv k))); (have pc := (P3.below hT).cell; have qc := (Q3.below hT).cell; have yo := y3.below hT; have xo := x3.below hT); refine Goes.mk ?_; go_simp; first | exact goes_v | exact goes_b (by assumption) | (refine goes_enter ?_; first | (go_at_call 63; ((with_reducible refine (c3 wo xo).mono ?_); rintro e w5 ⟨rfl, hD5⟩); exact ret_v hD5.bel) | (go_at_call 63; ((with_reducible refine (c4 B2 m2 d2 wo yo).mono ?_); rintro e w5 ⟨rfl, hD5⟩); exact ret_v hD5.bel)))))); refine ObsK.nil ?_; intro wz hBz; simp only [finOn, List.drop_succ_cons, List.drop_zero, List.drop_nil]
    go_simp
    have P4 := P3.below hBz
    have Pc4 := P4.cell
    clear Pc3
    have Z4 := Z3.below hBz
    have Zc4 := Z4.cell
    clear Zc3
    have Q4 := Q3.below hBz
    have Qc4 := Q4.cell
    clear Qc3
    have x4 := x3.below hBz
    have y4 := y3.below hBz
    have R4 := below_then R3 hBz
    go_wp2_with fail
    obtain ⟨wf, hwf, Sf⟩ := store2 Z4 (.int .u16 0) (.int .u16 0)
    rw [hwf]
    have pf := Sf.blk.cell
    exact bodyPost_ret (v := .tuple #[.agg #[.int .u16 0, .int .u16 0], .int .i64 4]) (by simp [results, Try.results53, go_sem, pf]) rfl ⟨_, _, rfl, (fun h => by simp at h), Sf.bel R4 (by omega)⟩

  · skip
    go_enter Try.func53, Try.ntmps53
    go_wp2_with fail
    have ho := hcell w1 x1
    have Bv : Below w1.heap.size w1 w1.drew := by (repeat (first | with_reducible exact Below.refl _ _ | with_reducible refine below_drew ?_ | with_reducible refine below_drewN ?_ _ | with_reducible refine below_alloc ?_ (Nat.le_refl _) _ | with_reducible refine Below.setCell ?_ (by first | exact Nat.le_refl _ | (simp only []; omega)) _ | with_reducible assumption))
    go_region
    generalize w1.drew = wv at Bv ⊢
    have P2 := P1.below Bv
    have Pc2 := P2.cell
    clear Pc1
    have Z2 := Z1.below Bv
    have Zc2 := Z2.cell
    clear Zc1
    have x2 := x1.below Bv
    have R2 := below_then R1 Bv
    go_wp2_with (go_at_call 74; ((with_reducible refine (cb wv).mono ?_); rintro e u3 ⟨B1, m1, d1, B2, m2, d2, rfl, k3, hB3⟩); (obtain ⟨w3, hw3⟩ : ∃ W, u3.alloc (.cells #[.int .u8 0, .int .u16 0, .bool false, .int .u8 0, .int .u8 47, .int .u32 0, .int .u32 0, .slice B1 m1 d1, .slice B2 m2 d2] 26) = W := ⟨_, rfl⟩); have V3 : Below u3.heap.size u3 w3 := (by rw [← hw3]; (repeat (first | with_reducible exact Below.refl _ _ | with_reducible refine below_drew ?_ | with_reducible refine below_drewN ?_ _ | with_reducible refine below_alloc ?_ (Nat.le_refl _) _ | with_reducible refine Below.setCell ?_ (by first | exact Nat.le_refl _ | (simp only []; omega)) _ | with_reducible assumption))); (obtain ⟨kQ3, hkQ3⟩ : ∃ k : Nat, u3.heap.size = k := ⟨_, rfl⟩); have Q3 : Blk w3 kQ3 #[.int .u8 0, .int .u16 0, .bool false, .int .u8 0, .int .u8 47, .int .u32 0, .int .u32 0, .slice B1 m1 d1, .slice B2 m2 d2] 26 := (by rw [← hw3]; exact blk_new u3 _ _ _ hkQ3); have Qc3 := Q3.cell; have T3 := below_then hB3 V3; have y3 := (k3).below V3; have P3 := P2.below T3; have Pc3 := P3.cell; clear Pc2; have Z3 := Z2.below T3; have Zc3 := Z3.cell; clear Zc2; have x3 := x2.below T3; have R3 := below_then R2 T3)
    refine region_txt 7 (by kernel_rfl) (by kernel_rfl) ?_; (iterate 7 (first | (apply ObsK.skip (by rfl)) | (apply ObsK.v (by rfl); (intro wo hT; (repeat (first | (intro _ _ k; try have hcv := cv k))); (have pc := (P3.below hT).cell; have qc := (Q3.below hT).cell; have yo := y3.below hT; have xo := x3.below hT); refine Goes.mk ?_; go_simp; first | exact goes_v | exact goes_b (by assumption) | (refine goes_enter ?_; first | (go_at_call 63; ((with_reducible refine (c3 wo xo).mono ?_); rintro e w5 ⟨rfl, hD5⟩); exact ret_v hD5.bel) | (go_at_call 63; ((with_reducible refine (c4 B2 m2 d2 wo yo).mono ?_); rintro e w5 ⟨rfl, hD5⟩); exact ret_v hD5.bel)))) | (apply ObsK.b (by rfl); (intro wo hT; (repeat (first | (intro _ _ k; try have hcv := cv k))); (have pc := (P3.below hT).cell; have qc := (Q3.below hT).cell; have yo := y3.below hT; have xo := x3.below hT); refine Goes.mk ?_; go_simp; first | exact goes_v | exact goes_b (by assumption) | (refine goes_enter ?_; first | (go_at_call 63; ((with_reducible refine (c3 wo xo).mono ?_); rintro e w5 ⟨rfl, hD5⟩); exact ret_v hD5.bel) | (go_at_call 63; ((with_reducible refine (c4 B2 m2 d2 wo yo).mono ?_); rintro e w5 ⟨rfl, hD5⟩); exact ret_v hD5.bel)))))); refine ObsK.nil ?_; intro wz hBz; simp only [finOn, List.drop_succ_cons, List.drop_zero, List.drop_nil]
    go_simp
    have P4 := P3.below hBz
    have Pc4 := P4.cell
    clear Pc3
    have Z4 := Z3.below hBz
    have Zc4 := Z4.cell
    clear Zc3
    have Q4 := Q3.below hBz
    have Qc4 := Q4.cell
    clear Qc3
    have x4 := x3.below hBz
    have y4 := y3.below hBz
    have R4 := below_then R3 hBz
    go_wp2_with (go_at_call 47; ((with_reducible refine (cg wz x4).mono ?_); rintro e w5 ⟨rfl, hD5⟩); have hB5 := hD5.bel; have P5 := P4.below hB5; have Pc5 := P5.cell; clear Pc4; have Z5 := Z4.below hB5; have Zc5 := Z5.cell; clear Zc4; have Q5 := Q4.below hB5; have Qc5 := Q5.cell; clear Qc4; have x5 := x4.below hB5; have y5 := y4.below hB5; have R5 := below_then R4 hB5)
    obtain ⟨wf, hwf, Sf⟩ := store2 Z5 (.int .u16 0) (.int .u16 g)
    rw [hwf]
    have pf := Sf.blk.cell
    exact bodyPost_ret (v := .tuple #[.agg #[.int .u16 0, .int .u16 g], .int .i64 0]) (by simp [results, Try.results53, go_sem, pf]) rfl ⟨_, _, rfl, fun _ => ⟨rfl, rfl⟩, Sf.bel R5 (by omega)⟩

end Go.Proofs.Ythgoffbfgdgkpaa

namespace Go.Proofs.Ythgoffbfgdgkpaa
open Go.RowKit
set_option linter.unusedVariables false
set_option linter.unusedSimpArgs false
set_option linter.unusedSimpArgs false
set_option maxHeartbeats 4000000
set_option maxRecDepth 100000

end Go.Proofs.Ythgoffbfgdgkpaa

namespace Go.Proofs.Ythgoffbfgdgkpaa
open Go.RowKit
set_option linter.unusedVariables false
set_option linter.unusedSimpArgs false
set_option maxHeartbeats 4000000
set_option maxRecDepth 100000

end Go.Proofs.Ythgoffbfgdgkpaa

namespace Go.Proofs.Ythgoffbfgdgkpaa
open Go.RowKit
set_option linter.unusedVariables false
set_option linter.unusedSimpArgs false

end Go.Proofs.Ythgoffbfgdgkpaa

namespace Go.Proofs.Ythgoffbfgdgkpaa
open Go.RowKit
set_option linter.unusedVariables false
set_option linter.unusedSimpArgs false
set_option linter.unusedSimpArgs false
set_option maxHeartbeats 4000000
set_option maxRecDepth 100000

end Go.Proofs.Ythgoffbfgdgkpaa

namespace Go.Proofs.Ythgoffbfgdgkpaa
open Go.RowKit
set_option linter.unusedVariables false
set_option maxRecDepth 100000

def hx (p : Pkt) (c : Int) : List UInt8 := [ub (64 + (20 + (p.opt.length : Int)) / 4), ub p.tos, ub ((20 + (p.opt.length : Int) + (p.dat.length : Int)) / 256), ub (20 + (p.opt.length : Int) + (p.dat.length : Int)), ub (p.id / 256), ub p.id, if p.keep = true then 64 else 0, 0, ub p.ttl, ub p.proto, ub (c / 256), ub c, ub (p.src / 16777216), ub (p.src / 65536), ub (p.src / 256), ub p.src, ub (p.dst / 16777216), ub (p.dst / 65536), ub (p.dst / 256), ub p.dst]
end Go.Proofs.Ythgoffbfgdgkpaa

namespace Go.Proofs.Ythgoffbfgdgkpaa
open Go.RowKit
set_option linter.unusedVariables false

end Go.Proofs.Ythgoffbfgdgkpaa

namespace Go.Proofs.Ythgoffbfgdgkpaa
open Go.RowKit
set_option linter.unusedVariables false
set_option linter.unusedSimpArgs false
set_option maxHeartbeats 4000000
set_option maxRecDepth 100000

end Go.Proofs.Ythgoffbfgdgkpaa

namespace Go.Proofs.Ythgoffbfgdgkpaa
open Go.RowKit
set_option linter.unusedVariables false
set_option linter.unusedSimpArgs false
set_option maxHeartbeats 8000000
set_option maxRecDepth 100000

theorem rdPost_no {w w' : World} {q : Bool} {l : List UInt8} (x : Int) (hE : rdE q l = x) (hx : x ≠ 0) (hB : Below w.heap.size w w') :
    RdPost w q l (.returned (.tuple #[.agg #[.int .u8 0, .int .u16 0, .bool false, .int .u8 0, .int .u8 0, .int .u32 0, .int .u32 0, .slice none 0 0, .slice none 0 0], .int .i64 x])) w' := by
  have hR : rdPk q l = zP := by unfold rdPk; rw [if_neg (by omega)]
  exact ⟨none, 0, 0, none, 0, 0, by rw [hR, hE]; rfl, by rw [hR]; exact Bs.none_ _, by rw [hR]; exact Bs.none_ _, fun x e => (by cases e), fun x e => (by cases e), hB⟩
theorem rread_len (A : Option Addr) (n c : Nat) (l : List UInt8) (q : Bool) (w : World) (hb : Bs w A n c l) (hE0 : lenE q l ≠ 0) :
    Calls Try.prog 79 #[.slice A n c, .bool q] w (RdPost w q l) := by
  have hlen := hb.len
  by_cases h20 : n < 20
  · have h1 : (n : Int) < 20 := by omega
    go_enter Try.func79, Try.ntmps79
    go_wp2_with fail
    have hE : lenE q l = 3 := by unfold lenE; rw [if_pos (by omega)]
    refine bodyPost_ret (v := .tuple #[.agg #[.int .u8 0, .int .u16 0, .bool false, .int .u8 0, .int .u8 0, .int .u32 0, .int .u32 0, .slice none 0 0, .slice none 0 0], .int .i64 3]) (by simp [results, Try.results79, go_sem]) rfl (rdPost_no 3 (by unfold rdE; rw [if_pos hE0, hE]) (by omega) (by (repeat (first | with_reducible exact Below.refl _ _ | with_reducible refine below_drew ?_ | with_reducible refine below_drewN ?_ _ | with_reducible refine below_alloc ?_ (Nat.le_refl _) _ | with_reducible refine Below.setCell ?_ (by first | exact Nat.le_refl _ | (simp only []; omega)) _ | with_reducible assumption))))
  · have h1 : ¬ (n : Int) < 20 := by omega
    obtain ⟨b, off, rfl⟩ := hb.some_ (by omega)
    have b0 := bt_lo l 0
    have b0' := bt_hi l 0
    obtain ⟨h, hh⟩ : ∃ h, hdOf l = h := ⟨_, rfl⟩
    have hh' : bt l 0 % 16 * 4 = h := by rw [← hh]; unfold hdOf; omega
    obtain ⟨g, hg⟩ : ∃ g, get16 l 2 = g := ⟨_, rfl⟩
    have g0 : 0 ≤ g := by rw [← hg]; exact get16_lo l 2
    have g1 : g ≤ 65535 := by rw [← hg]; exact get16_hi l 2
    have g2 : 0 ≤ h := by omega
    have g60 : h ≤ 60 := by omega
    have hb1 := hb.alloc (.cells #[.int .u8 0, .int .u16 0, .bool false, .int .u8 0, .int .u8 0, .int .u32 0, .int .u32 0, .slice none 0 0, .slice none 0 0] 26)
    have c0 := hb1.at_ (j := 0) (by omega)
    rw [Nat.add_zero] at c0
    have hn0 : (0 : Int) < n := by omega
    obtain ⟨x, hx⟩ : ∃ x, bt l 0 / 16 = x := ⟨_, rfl⟩
    have hR : rdE q l = lenE q l := by unfold rdE; rw [if_pos hE0]
    have HR := Lib.hid hR
    have H0 := Lib.hid hE0
    have HL := Lib.hid hlen
    clear hE0 hR
    by_cases hX : q = false ∧ (n : Int) < g
    · have HE : Hid (lenE q l = if x ≠ 4 then 6 else if h < 20 then 4 else if (n : Int) < h then 3 else if g < h then 4 else 3) := by
        unfold Hid lenE
        rw [hlen, if_neg h1, hx, hh, hg, if_pos hX]
      obtain ⟨rfl, hX⟩ := hX
      clear hlen hh
      go_enter Try.func79, Try.ntmps79
      go_wp2_with (go_at_call 55; ((with_reducible refine (rget16_any (some ⟨b, off, none⟩) n c l 2 _ hb1).mono ?_); rintro e w2 ⟨rfl, ⟨⟨d2, rfl⟩⟩⟩))
      all_goals have H1 := HE.out
      all_goals simp only [bne_iff_ne, ne_eq, bne_eq_false_iff_eq, Bool.not_eq_true', Bool.not_eq_false'] at *
      all_goals first
        | (refine bodyPost_ret (v := .tuple #[.agg #[.int .u8 0, .int .u16 0, .bool false, .int .u8 0, .int .u8 0, .int .u32 0, .int .u32 0, .slice none 0 0, .slice none 0 0], .int .i64 3]) ?_ rfl (rdPost_no 3 (HR.out.trans ?_) (by omega) ?_); (focus (simp [results, Try.results79, go_sem]; done)); (focus (rw [H1]; repeat' split; all_goals first | rfl | omega)); (repeat (first | with_reducible exact Below.refl _ _ | with_reducible refine below_drew ?_ | with_reducible refine below_drewN ?_ _ | with_reducible refine below_alloc ?_ (Nat.le_refl _) _ | with_reducible refine Below.setCell ?_ (by first | exact Nat.le_refl _ | (simp only []; omega)) _ | with_reducible assumption)))
        | (refine bodyPost_ret (v := .tuple #[.agg #[.int .u8 0, .int .u16 0, .bool false, .int .u8 0, .int .u8 0, .int .u32 0, .int .u32 0, .slice none 0 0, .slice none 0 0], .int .i64 4]) ?_ rfl (rdPost_no 4 (HR.out.trans ?_) (by omega) ?_); (focus (simp [results, Try.results79, go_sem]; done)); (focus (rw [H1]; repeat' split; all_goals first | rfl | omega)); (repeat (first | with_reducible exact Below.refl _ _ | with_reducible refine below_drew ?_ | with_reducible refine below_drewN ?_ _ | with_reducible refine below_alloc ?_ (Nat.le_refl _) _ | with_reducible refine Below.setCell ?_ (by first | exact Nat.le_refl _ | (simp only []; omega)) _ | with_reducible assumption)))
        | (refine bodyPost_ret (v := .tuple #[.agg #[.int .u8 0, .int .u16 0, .bool false, .int .u8 0, .int .u8 0, .int .u32 0, .int .u32 0, .slice none 0 0, .slice none 0 0], .int .i64 6]) ?_ rfl (rdPost_no 6 (HR.out.trans ?_) (by omega) ?_); (focus (simp [results, Try.results79, go_sem]; done)); (focus (rw [H1]; repeat' split; all_goals first | rfl | omega)); (repeat (first | with_reducible exact Below.refl _ _ | with_reducible refine below_drew ?_ | with_reducible refine below_drewN ?_ _ | with_reducible refine below_alloc ?_ (Nat.le_refl _) _ | with_reducible refine Below.setCell ?_ (by first | exact Nat.le_refl _ | (simp only []; omega)) _ | with_reducible assumption)))
        | (exfalso; apply H0.out; rw [H1]; repeat' split; all_goals first | rfl | omega)
    · have HE : Hid (lenE q l = if x ≠ 4 then 6 else if h < 20 then 4 else if (n : Int) < h then 3 else if g < h then 4 else 0) := by
        unfold Hid lenE
        rw [hlen, if_neg h1, hx, hh, hg, if_neg hX]
      clear hlen hh
      cases q with
      | true =>
        clear hX
        go_enter Try.func79, Try.ntmps79
        go_wp2_with (go_at_call 55; ((with_reducible refine (rget16_any (some ⟨b, off, none⟩) n c l 2 _ hb1).mono ?_); rintro e w2 ⟨rfl, ⟨⟨d2, rfl⟩⟩⟩))
        all_goals have H1 := HE.out
        all_goals simp only [bne_iff_ne, ne_eq, bne_eq_false_iff_eq, Bool.not_eq_true', Bool.not_eq_false'] at *
        all_goals first
          | (refine bodyPost_ret (v := .tuple #[.agg #[.int .u8 0, .int .u16 0, .bool false, .int .u8 0, .int .u8 0, .int .u32 0, .int .u32 0, .slice none 0 0, .slice none 0 0], .int .i64 3]) ?_ rfl (rdPost_no 3 (HR.out.trans ?_) (by omega) ?_); (focus (simp [results, Try.results79, go_sem]; done)); (focus (rw [H1]; repeat' split; all_goals first | rfl | omega)); (repeat (first | with_reducible exact Below.refl _ _ | with_reducible refine below_drew ?_ | with_reducible refine below_drewN ?_ _ | with_reducible refine below_alloc ?_ (Nat.le_refl _) _ | with_reducible refine Below.setCell ?_ (by first | exact Nat.le_refl _ | (simp only []; omega)) _ | with_reducible assumption)))
          | (refine bodyPost_ret (v := .tuple #[.agg #[.int .u8 0, .int .u16 0, .bool false, .int .u8 0, .int .u8 0, .int .u32 0, .int .u32 0, .slice none 0 0, .slice none 0 0], .int .i64 4]) ?_ rfl (rdPost_no 4 (HR.out.trans ?_) (by omega) ?_); (focus (simp [results, Try.results79, go_sem]; done)); (focus (rw [H1]; repeat' split; all_goals first | rfl | omega)); (repeat (first | with_reducible exact Below.refl _ _ | with_reducible refine below_drew ?_ | with_reducible refine below_drewN ?_ _ | with_reducible refine below_alloc ?_ (Nat.le_refl _) _ | with_reducible refine Below.setCell ?_ (by first | exact Nat.le_refl _ | (simp only []; omega)) _ | with_reducible assumption)))
          | (refine bodyPost_ret (v := .tuple #[.agg #[.int .u8 0, .int .u16 0, .bool false, .int .u8 0, .int .u8 0, .int .u32 0, .int .u32 0, .slice none 0 0, .slice none 0 0], .int .i64 6]) ?_ rfl (rdPost_no 6 (HR.out.trans ?_) (by omega) ?_); (focus (simp [results, Try.results79, go_sem]; done)); (focus (rw [H1]; repeat' split; all_goals first | rfl | omega)); (repeat (first | with_reducible exact Below.refl _ _ | with_reducible refine below_drew ?_ | with_reducible refine below_drewN ?_ _ | with_reducible refine below_alloc ?_ (Nat.le_refl _) _ | with_reducible refine Below.setCell ?_ (by first | exact Nat.le_refl _ | (simp only []; omega)) _ | with_reducible assumption)))
          | (exfalso; apply H0.out; rw [H1]; repeat' split; all_goals first | rfl | omega)
      | false =>
        have hX' : g ≤ (n : Int) := by
          rcases Int.lt_or_le (n : Int) g with hy | hy
          · exact absurd ⟨rfl, hy⟩ hX
          · exact hy
        clear hX
        go_enter Try.func79, Try.ntmps79
        go_wp2_with (go_at_call 55; ((with_reducible refine (rget16_any (some ⟨b, off, none⟩) n c l 2 _ hb1).mono ?_); rintro e w2 ⟨rfl, ⟨⟨d2, rfl⟩⟩⟩))
        all_goals have H1 := HE.out
        all_goals simp only [bne_iff_ne, ne_eq, bne_eq_false_iff_eq, Bool.not_eq_true', Bool.not_eq_false'] at *
        all_goals first
          | (refine bodyPost_ret (v := .tuple #[.agg #[.int .u8 0, .int .u16 0, .bool false, .int .u8 0, .int .u8 0, .int .u32 0, .int .u32 0, .slice none 0 0, .slice none 0 0], .int .i64 3]) ?_ rfl (rdPost_no 3 (HR.out.trans ?_) (by omega) ?_); (focus (simp [results, Try.results79, go_sem]; done)); (focus (rw [H1]; repeat' split; all_goals first | rfl | omega)); (repeat (first | with_reducible exact Below.refl _ _ | with_reducible refine below_drew ?_ | with_reducible refine below_drewN ?_ _ | with_reducible refine below_alloc ?_ (Nat.le_refl _) _ | with_reducible refine Below.setCell ?_ (by first | exact Nat.le_refl _ | (simp only []; omega)) _ | with_reducible assumption)))
          | (refine bodyPost_ret (v := .tuple #[.agg #[.int .u8 0, .int .u16 0, .bool false, .int .u8 0, .int .u8 0, .int .u32 0, .int .u32 0, .slice none 0 0, .slice none 0 0], .int .i64 4]) ?_ rfl (rdPost_no 4 (HR.out.trans ?_) (by omega) ?_); (focus (simp [results, Try.results79, go_sem]; done)); (focus (rw [H1]; repeat' split; all_goals first | rfl | omega)); (repeat (first | with_reducible exact Below.refl _ _ | with_reducible refine below_drew ?_ | with_reducible refine below_drewN ?_ _ | with_reducible refine below_alloc ?_ (Nat.le_refl _) _ | with_reducible refine Below.setCell ?_ (by first | exact Nat.le_refl _ | (simp only []; omega)) _ | with_reducible assumption)))
          | (refine bodyPost_ret (v := .tuple #[.agg #[.int .u8 0, .int .u16 0, .bool false, .int .u8 0, .int .u8 0, .int .u32 0, .int .u32 0, .slice none 0 0, .slice none 0 0], .int .i64 6]) ?_ rfl (rdPost_no 6 (HR.out.trans ?_) (by omega) ?_); (focus (simp [results, Try.results79, go_sem]; done)); (focus (rw [H1]; repeat' split; all_goals first | rfl | omega)); (repeat (first | with_reducible exact Below.refl _ _ | with_reducible refine below_drew ?_ | with_reducible refine below_drewN ?_ _ | with_reducible refine below_alloc ?_ (Nat.le_refl _) _ | with_reducible refine Below.setCell ?_ (by first | exact Nat.le_refl _ | (simp only []; omega)) _ | with_reducible assumption)))
          | (exfalso; apply H0.out; rw [H1]; repeat' split; all_goals first | rfl | omega)
end Go.Proofs.Ythgoffbfgdgkpaa

namespace Go.Proofs.Ythgoffbfgdgkpaa
open Go.RowKit
set_option linter.unusedVariables false
set_option linter.unusedSimpArgs false
set_option linter.unusedSimpArgs false
set_option maxHeartbeats 8000000
set_option maxRecDepth 100000

def isP (B : Nat) : World → Value → Prop := fun W v => ∃ g, v = .pointer (some ⟨g, 0, none⟩) ∧ B ≤ g ∧ Blk W g #[.int .u8 0, .int .u16 0, .bool false, .int .u8 0, .int .u8 0, .int .u32 0, .int .u32 0, .slice none 0 0, .slice none 0 0] 26
theorem st_isP {B : Nat} : ∀ w w' v, isP B w v → Below w.heap.size w w' → isP B w' v := fun _ _ _ ⟨g, e, h, k⟩ hb => ⟨g, e, h, k.below hb⟩
theorem goes_isP {B : Nat} {W : World} (h : B ≤ W.heap.size) : OpGoes Try.prog (fun v w' => (Kd.p (isP B)).holds w' v ∧ Below W.heap.size W w') (.ok (.value (.pointer (some ⟨W.heap.size, 0, none⟩))) (W.alloc (.cells #[.int .u8 0, .int .u16 0, .bool false, .int .u8 0, .int .u8 0, .int .u32 0, .int .u32 0, .slice none 0 0, .slice none 0 0] 26))) :=
  ⟨⟨_, rfl, h, blk_new W _ _ _ rfl⟩, (Below.refl _ W).alloc (Nat.le_refl _) _⟩
theorem rread_ok (A : Option Addr) (n c : Nat) (l : List UInt8) (q : Bool) (w : World) (hb : Bs w A n c l) (hE0 : lenE q l = 0) :
    Calls Try.prog 79 #[.slice A n c, .bool q] w (RdPost w q l) := by
  have hlen := hb.len
  have hmax := hb.max
  have hcap := hb.cap
  obtain ⟨i8, hi8, -, hs8, -⟩ := info_parts info_u8
  obtain ⟨f1, f2, f3, f4, f5, f6, f7, f8, f9⟩ := len_facts hE0
  obtain ⟨b, off, rfl⟩ := hb.some_ (by omega)
  have b0 := bt_lo l 0
  have b0' := bt_hi l 0
  obtain ⟨h, hh⟩ : ∃ h, hdOf l = h := ⟨_, rfl⟩
  have hh' : bt l 0 % 16 * 4 = h := by rw [← hh]; unfold hdOf; omega
  obtain ⟨g, hg⟩ : ∃ g, get16 l 2 = g := ⟨_, rfl⟩
  obtain ⟨m, hm⟩ : ∃ m, alOf l = m := ⟨_, rfl⟩
  have ham : m = if (n : Int) < g then (n : Int) else g := by rw [← hm]; unfold alOf; rw [hg, hlen]
  have g0 : 0 ≤ g := by rw [← hg]; exact get16_lo l 2
  have g1 : g ≤ 65535 := by rw [← hg]; exact get16_hi l 2
  obtain ⟨f, hf⟩ : ∃ f, get16 l 6 = f := ⟨_, rfl⟩
  have e0 : 0 ≤ f := by rw [← hf]; exact get16_lo l 6
  have e1 : f ≤ 65535 := by rw [← hf]; exact get16_hi l 6
  obtain ⟨s, hs⟩ : ∃ s, csum (l.take h.toNat) = s := ⟨_, rfl⟩
  rw [hh] at f3 f4 f5 f7 f8
  rw [hm] at f5 f6
  rw [hg] at f8 f9
  rw [hlen] at f1 f4 f6 f9
  have hb1 := hb.alloc (.cells #[.int .u8 0, .int .u16 0, .bool false, .int .u8 0, .int .u8 0, .int .u32 0, .int .u32 0, .slice none 0 0, .slice none 0 0] 26)
  have c0 := hb1.at_ (j := 0) (by omega)
  rw [Nat.add_zero] at c0
  have hn0 : (0 : Int) < n := by omega
  obtain ⟨x, hx⟩ : ∃ x, bt l 0 / 16 = x := ⟨_, rfl⟩
  have hx4 : (x != 4) = false := by simp; omega
  have HE : Hid (rdE q l = if s ≠ 0 then 5 else if f % 16384 ≠ 0 then 7 else if 32768 ≤ f then 4 else if q = true ∧ m - h < 8 then 3 else 0) := by
    unfold Hid rdE
    rw [if_neg (by omega), hh, hs, hf, hm]
  have hcutA : ∀ W, (Instr.slice 24 (.slice (some ⟨b, off, none⟩) n c) none (some (.int .i64 h)) none).run Try.prog W = .ok (.slice (some ⟨b, off, none⟩) h.toNat c) W := fun W => by
    rw [cut_h Try.underlying24 hi8 hs8 (some ⟨b, off, none⟩) n c .i64 h (by omega) (by omega) W]
    simp [Addr.add]
  have hbA := fun (W : World) (k : Bs W (some ⟨b, off, none⟩) n c l) => k.takeN (k := h.toNat) (by omega)
  have hsd : ∀ (W : World) (d : Nat) (p : Addr) (v : Value), (W.drewN d).setCell p v = (W.setCell p v).drewN d := fun _ _ _ _ => rfl
  have HH := Lib.hid hh
  have HM := Lib.hid hm
  have HF := Lib.hid hf
  have HAM := Lib.hid ham
  have h20 : ¬ (n : Int) < 20 := by omega
  have hgb : 0 ≤ h := by omega
  have HL := Lib.hid hlen
  clear hh hm ham f1 f2 f7 hlen
  by_cases hng : (n : Int) < g
  · have hq : q = true := by
      cases q with
      | true => rfl
      | false => have := f9 rfl; omega
    subst hq
    have hmn : m = n := by rw [HAM.out, if_pos hng]
    subst hmn
    clear f9 f8
    go_enter Try.func79, Try.ntmps79
    go_wp2_with (first
      | (go_at_call 55; ((with_reducible refine (rget16_any (some ⟨b, off, none⟩) n c l 2 _ hb1).mono ?_); rintro e w2 ⟨rfl, ⟨⟨d2, rfl⟩⟩⟩))
      | (go_at_call 57; ((with_reducible refine (rgood_any (some ⟨b, off, none⟩) h.toNat c (l.take h.toNat) (by omega) _ (hbA _ (hb1.drewN _))).mono ?_); rintro e w3 ⟨rfl, hB3⟩); have R3 := ((blk_new w #[.int .u8 0, .int .u16 0, .bool false, .int .u8 0, .int .u8 0, .int .u32 0, .int .u32 0, .slice none 0 0, .slice none 0 0] 26 _ rfl).drewN d2).below hB3; have b3 := (hb1.drewN d2).below hB3; have T3 := below_then (below_drewN ((Below.refl _ w).alloc (Nat.le_refl _) _) d2) hB3; (obtain ⟨wf, hwf, S⟩ := store9 R3 (.int .u8 0) (.int .u16 0) (.bool false) (.int .u8 0) (.int .u8 0) (.int .u32 0) (.int .u32 0) (.slice none 0 0) (.slice none 0 0)); have pf := S.blk.cell; have rc := R3.cell; have TF := S.bel T3 (Nat.le_refl _))
      | (go_at_call 55; ((with_reducible refine (rget16_any (some ⟨b, off, none⟩) n c l 6 _ b3).mono ?_); rintro e w4 ⟨rfl, ⟨⟨d4, rfl⟩⟩⟩)))
    all_goals have H1 := HE.out
    all_goals simp only [Bool.not_eq_true', Bool.not_eq_false', beq_iff_eq, beq_eq_false_iff_ne, bne_iff_ne, ne_eq, bne_eq_false_iff_eq, true_and, false_and, Bool.false_eq_true, if_false] at *
    all_goals first
      | (refine bodyPost_ret (v := .tuple #[.agg #[.int .u8 0, .int .u16 0, .bool false, .int .u8 0, .int .u8 0, .int .u32 0, .int .u32 0, .slice none 0 0, .slice none 0 0], .int .i64 5]) ?_ rfl (rdPost_no 5 (H1.trans ?_) (by omega) ?_); (focus (simp [results, Try.results79, go_sem, pf]; done)); (focus (repeat' split; all_goals first | rfl | omega)); (first | exact TF | exact below_drewN TF _))
      | (refine bodyPost_ret (v := .tuple #[.agg #[.int .u8 0, .int .u16 0, .bool false, .int .u8 0, .int .u8 0, .int .u32 0, .int .u32 0, .slice none 0 0, .slice none 0 0], .int .i64 7]) ?_ rfl (rdPost_no 7 (H1.trans ?_) (by omega) ?_); (focus (simp [results, Try.results79, go_sem, pf]; done)); (focus (repeat' split; all_goals first | rfl | omega)); (first | exact TF | exact below_drewN TF _))
      | (refine bodyPost_ret (v := .tuple #[.agg #[.int .u8 0, .int .u16 0, .bool false, .int .u8 0, .int .u8 0, .int .u32 0, .int .u32 0, .slice none 0 0, .slice none 0 0], .int .i64 4]) ?_ rfl (rdPost_no 4 (H1.trans ?_) (by omega) ?_); (focus (simp [results, Try.results79, go_sem, pf]; done)); (focus (repeat' split; all_goals first | rfl | omega)); (first | exact TF | exact below_drewN TF _))
      | (refine bodyPost_ret (v := .tuple #[.agg #[.int .u8 0, .int .u16 0, .bool false, .int .u8 0, .int .u8 0, .int .u32 0, .int .u32 0, .slice none 0 0, .slice none 0 0], .int .i64 3]) ?_ rfl (rdPost_no 3 (H1.trans ?_) (by omega) ?_); (focus (simp [results, Try.results79, go_sem, pf]; done)); (focus (repeat' split; all_goals first | rfl | omega)); (first | exact TF | exact below_drewN TF _))
      | skip
    have hE : rdE true l = 0 := by
      rw [H1]
      repeat' split
      all_goals first | rfl | omega
    have HE0 := Lib.hid hE
    have b4 := b3.drewN d4
    have R4 := R3.drewN d4
    have T4 := below_drewN T3 d4
    have hrl := R4.lt
    have hcutB : ∀ W, (Instr.slice 24 (.slice (some ⟨b, off, none⟩) n c) (some (.int .i64 20)) (some (.int .i64 h)) none).run Try.prog W = _ := fun W => cut_lh Try.underlying24 hi8 hs8 (some ⟨b, off, none⟩) n c .i64 .i64 20 h (by omega) (by omega) (by omega) W
    obtain ⟨A2, n2, c2, eA, en, ec, hbB⟩ := hb.cutE (lo := 20) (hi := h.toNat) (by omega) (by omega)
    simp only [show (20 : Int).toNat = 20 from rfl, eA, en, ec] at hcutB
    clear eA en ec
    have hcutC : ∀ W, (Instr.slice 24 (.slice (some ⟨b, off, none⟩) n c) (some (.int .i64 h)) (some (.int .i64 (n : Int))) none).run Try.prog W = _ := fun W => cut_lh Try.underlying24 hi8 hs8 (some ⟨b, off, none⟩) n c .i64 .i64 h (n : Int) (by omega) (by omega) (by omega) W
    obtain ⟨A3, n3, c3, eA, en, ec, hbC⟩ := hb.cutE (lo := h.toNat) (hi := ((n : Int)).toNat) (by omega) (by omega)
    simp only [eA, en, ec] at hcutC
    clear eA en ec
    have m2 := hbB.max
    have m3 := hbC.max
    have x1 : (1 : Int) < n := by omega
    have x8 : (8 : Int) < n := by omega
    have x9 : (9 : Int) < n := by omega
    obtain ⟨k, hk⟩ : ∃ k, decide (16384 ≤ f) = k := ⟨_, rfl⟩
    have HK : Hid ((get16 l 6 != 0) = k) := by
      unfold Hid
      rw [HF.out, ← hk]
      by_cases z : f = 0
      · rw [z]; rfl
      · rw [show (f != 0) = true from by simpa using z]; exact (decide_eq_true (by omega)).symm
    generalize w3.drewN d4 = w4 at *
    clear hE H1 hs hf hcutA hbA hwf S pf rc TF R3 T3 b3 hB3 hb1 c0 hsd hx4
    refine region_txt 19 (by kernel_rfl) (by kernel_rfl) ?_; (iterate 19 (first | (apply ObsK.skip (by rfl)) | (apply ObsK.v (by rfl); (intro wo hT; (repeat (first | (intro v hv; ((skip))) | (intro _ _ k; try have hcv := cv k))); (have bo := b4.below hT; have c1 := bo.at_ (j := 1) (by omega); have c8 := bo.at_ (j := 8) (by omega); have c9 := bo.at_ (j := 9) (by omega); have zo : w.heap.size + 1 ≤ wo.heap.size := Nat.le_trans hrl hT.size); refine Goes.mk ?_; go_simp; first | exact goes_v | exact goes_b (by assumption) | exact goes_isP zo | (refine goes_enter ?_; first | (go_at_call 55; ((with_reducible refine (rget16_any (some ⟨b, off, none⟩) n c l 4 wo bo).mono ?_); rintro e w5 ⟨rfl, hD5⟩); exact ret_v hD5.bel) | (go_at_call 56; ((with_reducible refine (rget32_any (some ⟨b, off, none⟩) n c l 12 wo bo).mono ?_); rintro e w5 ⟨rfl, hD5⟩); exact ret_v hD5.bel) | (go_at_call 56; ((with_reducible refine (rget32_any (some ⟨b, off, none⟩) n c l 16 wo bo).mono ?_); rintro e w5 ⟨rfl, hD5⟩); exact ret_v hD5.bel)))) | (apply ObsK.b (by rfl); (intro wo hT; (repeat (first | (intro v hv; ((skip))) | (intro _ _ k; try have hcv := cv k))); (have bo := b4.below hT; have c1 := bo.at_ (j := 1) (by omega); have c8 := bo.at_ (j := 8) (by omega); have c9 := bo.at_ (j := 9) (by omega); have zo : w.heap.size + 1 ≤ wo.heap.size := Nat.le_trans hrl hT.size); refine Goes.mk ?_; go_simp; first | exact goes_v | exact goes_b (by assumption) | exact goes_isP zo | (refine goes_enter ?_; first | (go_at_call 55; ((with_reducible refine (rget16_any (some ⟨b, off, none⟩) n c l 4 wo bo).mono ?_); rintro e w5 ⟨rfl, hD5⟩); exact ret_v hD5.bel) | (go_at_call 56; ((with_reducible refine (rget32_any (some ⟨b, off, none⟩) n c l 12 wo bo).mono ?_); rintro e w5 ⟨rfl, hD5⟩); exact ret_v hD5.bel) | (go_at_call 56; ((with_reducible refine (rget32_any (some ⟨b, off, none⟩) n c l 16 wo bo).mono ?_); rintro e w5 ⟨rfl, hD5⟩); exact ret_v hD5.bel)))) | (apply ObsK.p (q := isP (w.heap.size + 1)) (by rfl) st_isP; (intro wo hT; (repeat (first | (intro v hv; ((skip))) | (intro _ _ k; try have hcv := cv k))); (have bo := b4.below hT; have c1 := bo.at_ (j := 1) (by omega); have c8 := bo.at_ (j := 8) (by omega); have c9 := bo.at_ (j := 9) (by omega); have zo : w.heap.size + 1 ≤ wo.heap.size := Nat.le_trans hrl hT.size); refine Goes.mk ?_; go_simp; first | exact goes_v | exact goes_b (by assumption) | exact goes_isP zo | (refine goes_enter ?_; first | (go_at_call 55; ((with_reducible refine (rget16_any (some ⟨b, off, none⟩) n c l 4 wo bo).mono ?_); rintro e w5 ⟨rfl, hD5⟩); exact ret_v hD5.bel) | (go_at_call 56; ((with_reducible refine (rget32_any (some ⟨b, off, none⟩) n c l 12 wo bo).mono ?_); rintro e w5 ⟨rfl, hD5⟩); exact ret_v hD5.bel) | (go_at_call 56; ((with_reducible refine (rget32_any (some ⟨b, off, none⟩) n c l 16 wo bo).mono ?_); rintro e w5 ⟨rfl, hD5⟩); exact ret_v hD5.bel)))))); refine ObsK.nil ?_; intro wz hBz; simp only [finOn, List.drop_succ_cons, List.drop_zero, List.drop_nil]
    intro vp hvp
    obtain ⟨gp, rfl, gB, G⟩ := hvp
    go_simp
    obtain ⟨wg, hwg, SG⟩ := store9 G (.int .u8 (bt l 1)) (.int .u16 (get16 l 4)) (.bool k) (.int .u8 (bt l 8)) (.int .u8 (bt l 9)) (.int .u32 (get32 l 12)) (.int .u32 (get32 l 16)) (.slice none 0 0) (.slice none 0 0)
    have gc := G.cell
    have R5 := SG.other (by omega) (R4.below hBz)
    have T5 := SG.bel (below_then T4 hBz) (by omega)
    have G5 := SG.blk
    go_wp2_with fail
    clear hwg SG gc G R4 T4 b4 hBz hk
    refine region_txt 5 (by kernel_rfl) (by kernel_rfl) ?_; (iterate 5 (first | (apply ObsK.skip (by rfl)) | (apply ObsK.v (by rfl); (intro wo hT; (repeat (first | (intro _ _ k; try have hcv := cv k))); (have gc := (G5.below hT).cell); refine Goes.mk ?_; go_simp; first | exact goes_v | exact goes_b (by assumption) | (refine goes_enter ?_; first | fail))) | (apply ObsK.b (by rfl); (intro wo hT; (repeat (first | (intro _ _ k; try have hcv := cv k))); (have gc := (G5.below hT).cell); refine Goes.mk ?_; go_simp; first | exact goes_v | exact goes_b (by assumption) | (refine goes_enter ?_; first | fail))))); refine ObsK.nil ?_; intro wz hBz; simp only [finOn, List.drop_succ_cons, List.drop_zero, List.drop_nil]
    go_simp
    have R6 := R5.below hBz
    have G6 := G5.below hBz
    have T6 := below_then T5 hBz
    have gl := G6.lt
    have rl := R6.lt
    have fc6 := G6.cell.2
    clear R5 G5 T5 hBz
    go_wp2_with (first
      | (at_builtin; refine wpList_append_bs (w0 := wz) _ rfl _ _ _ rfl wz.heap.size 5 Try.underlying24 info_u8 none 0 0 [] rfl (own_nil _ _ _) A2 n2 c2 _ rfl (hbB.below T6) (Below.refl _ _) (by omega) (by first | exact Nat.le_refl _ | exact Below.size (Below.refl _ _) | omega | (simp <;> omega)) ?_; intro A7 n7 c7 w7 ho7 hB7 _ hz7; have u7 : n7 = n2 := (by have := ho7.len; have := hbB.len; simp at *; omega); subst u7; have g7 := (G6.below hB7).cell))
    have a7 := ho7.ge
    have k7 := ho7.bs
    have G8 : Blk (w7.setCell ⟨gp, 7, none⟩ (.slice A7 n7 c7)) gp #[.int .u8 (bt l 1), .int .u16 (get16 l 4), .bool k, .int .u8 (bt l 8), .int .u8 (bt l 9), .int .u32 (get32 l 12), .int .u32 (get32 l 16), .slice A7 n7 c7, .slice none 0 0] 26 := by
      have := (G6.below hB7).set_ 7 (.slice A7 n7 c7)
      simp only [List.setIfInBounds_toArray, List.set_cons_zero, List.set_cons_succ] at this
      exact this
    have R8 := (R6.below hB7).far ⟨gp, 7, none⟩ (by simp; omega) (.slice A7 n7 c7)
    have T8 := (below_then T6 hB7).setCell (p := ⟨gp, 7, none⟩) (by simp; omega) (.slice A7 n7 c7)
    have k8 := k7.away ⟨gp, 7, none⟩ (fun a e => by have := a7 a e; simp; omega) (.slice A7 n7 c7)
    have a8 : ∀ a, A7 = some a → gp < a.block := fun a e => by have := a7 a e; omega
    generalize w7.setCell ⟨gp, 7, none⟩ (.slice A7 n7 c7) = w8 at *
    clear g7 fc6 ho7 hB7 k7 a7 G6 R6 T6 gl rl hz7
    refine region_txt 6 (by kernel_rfl) (by kernel_rfl) ?_; (iterate 6 (first | (apply ObsK.skip (by rfl)) | (apply ObsK.v (by rfl); (intro wo hT; (repeat (first | (intro _ _ k; try have hcv := cv k))); (have gc := (G8.below hT).cell); refine Goes.mk ?_; go_simp; first | exact goes_v | exact goes_b (by assumption) | (refine goes_enter ?_; first | fail))) | (apply ObsK.b (by rfl); (intro wo hT; (repeat (first | (intro _ _ k; try have hcv := cv k))); (have gc := (G8.below hT).cell); refine Goes.mk ?_; go_simp; first | exact goes_v | exact goes_b (by assumption) | (refine goes_enter ?_; first | fail))))); refine ObsK.nil ?_; intro wz hBz; simp only [finOn, List.drop_succ_cons, List.drop_zero, List.drop_nil]
    go_simp
    have R9 := R8.below hBz
    have G9 := G8.below hBz
    have T9 := below_then T8 hBz
    have k9 := k8.below hBz
    have gl := G9.lt
    have rl := R9.lt
    have fc9 := G9.cell.2
    clear R8 G8 T8 hBz k8
    go_wp2_with (first
      | (at_builtin; refine wpList_append_bs (w0 := wz) _ rfl _ _ _ rfl wz.heap.size 5 Try.underlying24 info_u8 none 0 0 [] rfl (own_nil _ _ _) A3 n3 c3 _ rfl (hbC.below T9) (Below.refl _ _) (by omega) (by first | exact Nat.le_refl _ | exact Below.size (Below.refl _ _) | omega | (simp <;> omega)) ?_; intro A10 n10 c10 w10 ho10 hB10 _ hz10; have u10 : n10 = n3 := (by have := ho10.len; have := hbC.len; simp at *; omega); subst u10; have g10 := (G9.below hB10).cell; have r10 := (R9.below hB10).cell; (obtain ⟨w11, hw11, S11⟩ := store1 (G9.below hB10) 8 (.slice A10 n10 c10)); have g11 := S11.blk.cell; have R11 := S11.other (by omega) (R9.below hB10); have r11 := R11.cell; (obtain ⟨w12, hw12, S12⟩ := store9 R11 (.int .u8 (bt l 1)) (.int .u16 (get16 l 4)) (.bool k) (.int .u8 (bt l 8)) (.int .u8 (bt l 9)) (.int .u32 (get32 l 12)) (.int .u32 (get32 l 16)) (.slice A7 n7 c7) (.slice A10 n10 c10))))
    have a10 := ho10.ge
    have k10 := ho10.bs
    have T12 := S12.bel (S11.bel (below_then T9 hB10) (by omega)) (Nat.le_refl _)
    have K10 := S12.bs (S11.bs k10 (fun a e => by have := a10 a e; omega)) (fun a e => by have := a10 a e; omega)
    have K9 := S12.bs (S11.bs (k9.below hB10) (fun a e => by have := a8 a e; omega)) (fun a e => by have := a8 a e; omega)
    have pf := S12.blk.cell
    have hR : rdPk true l = rdP l := by unfold rdPk; rw [if_pos HE0.out]
    have e1 : (rdP l).keep = k := HK.out
    have e2 : (rdP l).opt = List.drop 20 (List.take h.toNat l) := by rw [← HH.out]; rfl
    have e3 : (rdP l).dat = List.drop h.toNat (List.take ((n : Int)).toNat l) := by rw [← HH.out, ← HM.out]; rfl
    refine bodyPost_ret (v := .tuple #[.agg #[.int .u8 (bt l 1), .int .u16 (get16 l 4), .bool k, .int .u8 (bt l 8), .int .u8 (bt l 9), .int .u32 (get32 l 12), .int .u32 (get32 l 16), .slice A7 n7 c7, .slice A10 n10 c10], .int .i64 0]) (by simp [results, Try.results79, go_sem, pf]) rfl
      ⟨A7, n7, c7, A10, n10, c10, by rw [hR, HE0.out, e1]; rfl, by rw [hR, e2]; exact K9, by rw [hR, e3]; exact K10, fun a e => by have := a8 a e; omega, fun a e => by have := a10 a e; omega, T12⟩
  · have hmg : m = g := by rw [HAM.out, if_neg hng]
    rw [hmg] at f5 f6 HE HM
    have hgn : g ≤ (n : Int) := by omega
    clear hmg HAM hng f8 f9
    cases q with
    | true =>
      go_enter Try.func79, Try.ntmps79
      go_wp2_with (first
        | (go_at_call 55; ((with_reducible refine (rget16_any (some ⟨b, off, none⟩) n c l 2 _ hb1).mono ?_); rintro e w2 ⟨rfl, ⟨⟨d2, rfl⟩⟩⟩))
        | (go_at_call 57; ((with_reducible refine (rgood_any (some ⟨b, off, none⟩) h.toNat c (l.take h.toNat) (by omega) _ (hbA _ (hb1.drewN _))).mono ?_); rintro e w3 ⟨rfl, hB3⟩); have R3 := ((blk_new w #[.int .u8 0, .int .u16 0, .bool false, .int .u8 0, .int .u8 0, .int .u32 0, .int .u32 0, .slice none 0 0, .slice none 0 0] 26 _ rfl).drewN d2).below hB3; have b3 := (hb1.drewN d2).below hB3; have T3 := below_then (below_drewN ((Below.refl _ w).alloc (Nat.le_refl _) _) d2) hB3; (obtain ⟨wf, hwf, S⟩ := store9 R3 (.int .u8 0) (.int .u16 0) (.bool false) (.int .u8 0) (.int .u8 0) (.int .u32 0) (.int .u32 0) (.slice none 0 0) (.slice none 0 0)); have pf := S.blk.cell; have rc := R3.cell; have TF := S.bel T3 (Nat.le_refl _))
        | (go_at_call 55; ((with_reducible refine (rget16_any (some ⟨b, off, none⟩) n c l 6 _ b3).mono ?_); rintro e w4 ⟨rfl, ⟨⟨d4, rfl⟩⟩⟩)))
      all_goals have H1 := HE.out
      all_goals simp only [Bool.not_eq_true', Bool.not_eq_false', beq_iff_eq, beq_eq_false_iff_ne, bne_iff_ne, ne_eq, bne_eq_false_iff_eq, true_and, false_and, Bool.false_eq_true, if_false] at *
      all_goals first
        | (refine bodyPost_ret (v := .tuple #[.agg #[.int .u8 0, .int .u16 0, .bool false, .int .u8 0, .int .u8 0, .int .u32 0, .int .u32 0, .slice none 0 0, .slice none 0 0], .int .i64 5]) ?_ rfl (rdPost_no 5 (H1.trans ?_) (by omega) ?_); (focus (simp [results, Try.results79, go_sem, pf]; done)); (focus (repeat' split; all_goals first | rfl | omega)); (first | exact TF | exact below_drewN TF _))
        | (refine bodyPost_ret (v := .tuple #[.agg #[.int .u8 0, .int .u16 0, .bool false, .int .u8 0, .int .u8 0, .int .u32 0, .int .u32 0, .slice none 0 0, .slice none 0 0], .int .i64 7]) ?_ rfl (rdPost_no 7 (H1.trans ?_) (by omega) ?_); (focus (simp [results, Try.results79, go_sem, pf]; done)); (focus (repeat' split; all_goals first | rfl | omega)); (first | exact TF | exact below_drewN TF _))
        | (refine bodyPost_ret (v := .tuple #[.agg #[.int .u8 0, .int .u16 0, .bool false, .int .u8 0, .int .u8 0, .int .u32 0, .int .u32 0, .slice none 0 0, .slice none 0 0], .int .i64 4]) ?_ rfl (rdPost_no 4 (H1.trans ?_) (by omega) ?_); (focus (simp [results, Try.results79, go_sem, pf]; done)); (focus (repeat' split; all_goals first | rfl | omega)); (first | exact TF | exact below_drewN TF _))
        | (refine bodyPost_ret (v := .tuple #[.agg #[.int .u8 0, .int .u16 0, .bool false, .int .u8 0, .int .u8 0, .int .u32 0, .int .u32 0, .slice none 0 0, .slice none 0 0], .int .i64 3]) ?_ rfl (rdPost_no 3 (H1.trans ?_) (by omega) ?_); (focus (simp [results, Try.results79, go_sem, pf]; done)); (focus (repeat' split; all_goals first | rfl | omega)); (first | exact TF | exact below_drewN TF _))
        | skip
      have hE : rdE true l = 0 := by
        rw [H1]
        repeat' split
        all_goals first | rfl | omega
      have HE0 := Lib.hid hE
      have b4 := b3.drewN d4
      have R4 := R3.drewN d4
      have T4 := below_drewN T3 d4
      have hrl := R4.lt
      have hcutB : ∀ W, (Instr.slice 24 (.slice (some ⟨b, off, none⟩) n c) (some (.int .i64 20)) (some (.int .i64 h)) none).run Try.prog W = _ := fun W => cut_lh Try.underlying24 hi8 hs8 (some ⟨b, off, none⟩) n c .i64 .i64 20 h (by omega) (by omega) (by omega) W
      obtain ⟨A2, n2, c2, eA, en, ec, hbB⟩ := hb.cutE (lo := 20) (hi := h.toNat) (by omega) (by omega)
      simp only [show (20 : Int).toNat = 20 from rfl, eA, en, ec] at hcutB
      clear eA en ec
      have hcutC : ∀ W, (Instr.slice 24 (.slice (some ⟨b, off, none⟩) n c) (some (.int .i64 h)) (some (.int .i64 g)) none).run Try.prog W = _ := fun W => cut_lh Try.underlying24 hi8 hs8 (some ⟨b, off, none⟩) n c .i64 .i64 h g (by omega) (by omega) (by omega) W
      obtain ⟨A3, n3, c3, eA, en, ec, hbC⟩ := hb.cutE (lo := h.toNat) (hi := (g).toNat) (by omega) (by omega)
      simp only [eA, en, ec] at hcutC
      clear eA en ec
      have m2 := hbB.max
      have m3 := hbC.max
      have x1 : (1 : Int) < n := by omega
      have x8 : (8 : Int) < n := by omega
      have x9 : (9 : Int) < n := by omega
      obtain ⟨k, hk⟩ : ∃ k, decide (16384 ≤ f) = k := ⟨_, rfl⟩
      have HK : Hid ((get16 l 6 != 0) = k) := by
        unfold Hid
        rw [HF.out, ← hk]
        by_cases z : f = 0
        · rw [z]; rfl
        · rw [show (f != 0) = true from by simpa using z]; exact (decide_eq_true (by omega)).symm
      generalize w3.drewN d4 = w4 at *
      clear hE H1 hs hf hcutA hbA hwf S pf rc TF R3 T3 b3 hB3 hb1 c0 hsd hx4
      refine region_txt 19 (by kernel_rfl) (by kernel_rfl) ?_; (iterate 19 (first | (apply ObsK.skip (by rfl)) | (apply ObsK.v (by rfl); (intro wo hT; (repeat (first | (intro v hv; ((skip))) | (intro _ _ k; try have hcv := cv k))); (have bo := b4.below hT; have c1 := bo.at_ (j := 1) (by omega); have c8 := bo.at_ (j := 8) (by omega); have c9 := bo.at_ (j := 9) (by omega); have zo : w.heap.size + 1 ≤ wo.heap.size := Nat.le_trans hrl hT.size); refine Goes.mk ?_; go_simp; first | exact goes_v | exact goes_b (by assumption) | exact goes_isP zo | (refine goes_enter ?_; first | (go_at_call 55; ((with_reducible refine (rget16_any (some ⟨b, off, none⟩) n c l 4 wo bo).mono ?_); rintro e w5 ⟨rfl, hD5⟩); exact ret_v hD5.bel) | (go_at_call 56; ((with_reducible refine (rget32_any (some ⟨b, off, none⟩) n c l 12 wo bo).mono ?_); rintro e w5 ⟨rfl, hD5⟩); exact ret_v hD5.bel) | (go_at_call 56; ((with_reducible refine (rget32_any (some ⟨b, off, none⟩) n c l 16 wo bo).mono ?_); rintro e w5 ⟨rfl, hD5⟩); exact ret_v hD5.bel)))) | (apply ObsK.b (by rfl); (intro wo hT; (repeat (first | (intro v hv; ((skip))) | (intro _ _ k; try have hcv := cv k))); (have bo := b4.below hT; have c1 := bo.at_ (j := 1) (by omega); have c8 := bo.at_ (j := 8) (by omega); have c9 := bo.at_ (j := 9) (by omega); have zo : w.heap.size + 1 ≤ wo.heap.size := Nat.le_trans hrl hT.size); refine Goes.mk ?_; go_simp; first | exact goes_v | exact goes_b (by assumption) | exact goes_isP zo | (refine goes_enter ?_; first | (go_at_call 55; ((with_reducible refine (rget16_any (some ⟨b, off, none⟩) n c l 4 wo bo).mono ?_); rintro e w5 ⟨rfl, hD5⟩); exact ret_v hD5.bel) | (go_at_call 56; ((with_reducible refine (rget32_any (some ⟨b, off, none⟩) n c l 12 wo bo).mono ?_); rintro e w5 ⟨rfl, hD5⟩); exact ret_v hD5.bel) | (go_at_call 56; ((with_reducible refine (rget32_any (some ⟨b, off, none⟩) n c l 16 wo bo).mono ?_); rintro e w5 ⟨rfl, hD5⟩); exact ret_v hD5.bel)))) | (apply ObsK.p (q := isP (w.heap.size + 1)) (by rfl) st_isP; (intro wo hT; (repeat (first | (intro v hv; ((skip))) | (intro _ _ k; try have hcv := cv k))); (have bo := b4.below hT; have c1 := bo.at_ (j := 1) (by omega); have c8 := bo.at_ (j := 8) (by omega); have c9 := bo.at_ (j := 9) (by omega); have zo : w.heap.size + 1 ≤ wo.heap.size := Nat.le_trans hrl hT.size); refine Goes.mk ?_; go_simp; first | exact goes_v | exact goes_b (by assumption) | exact goes_isP zo | (refine goes_enter ?_; first | (go_at_call 55; ((with_reducible refine (rget16_any (some ⟨b, off, none⟩) n c l 4 wo bo).mono ?_); rintro e w5 ⟨rfl, hD5⟩); exact ret_v hD5.bel) | (go_at_call 56; ((with_reducible refine (rget32_any (some ⟨b, off, none⟩) n c l 12 wo bo).mono ?_); rintro e w5 ⟨rfl, hD5⟩); exact ret_v hD5.bel) | (go_at_call 56; ((with_reducible refine (rget32_any (some ⟨b, off, none⟩) n c l 16 wo bo).mono ?_); rintro e w5 ⟨rfl, hD5⟩); exact ret_v hD5.bel)))))); refine ObsK.nil ?_; intro wz hBz; simp only [finOn, List.drop_succ_cons, List.drop_zero, List.drop_nil]
      intro vp hvp
      obtain ⟨gp, rfl, gB, G⟩ := hvp
      go_simp
      obtain ⟨wg, hwg, SG⟩ := store9 G (.int .u8 (bt l 1)) (.int .u16 (get16 l 4)) (.bool k) (.int .u8 (bt l 8)) (.int .u8 (bt l 9)) (.int .u32 (get32 l 12)) (.int .u32 (get32 l 16)) (.slice none 0 0) (.slice none 0 0)
      have gc := G.cell
      have R5 := SG.other (by omega) (R4.below hBz)
      have T5 := SG.bel (below_then T4 hBz) (by omega)
      have G5 := SG.blk
      go_wp2_with fail
      clear hwg SG gc G R4 T4 b4 hBz hk
      refine region_txt 5 (by kernel_rfl) (by kernel_rfl) ?_; (iterate 5 (first | (apply ObsK.skip (by rfl)) | (apply ObsK.v (by rfl); (intro wo hT; (repeat (first | (intro _ _ k; try have hcv := cv k))); (have gc := (G5.below hT).cell); refine Goes.mk ?_; go_simp; first | exact goes_v | exact goes_b (by assumption) | (refine goes_enter ?_; first | fail))) | (apply ObsK.b (by rfl); (intro wo hT; (repeat (first | (intro _ _ k; try have hcv := cv k))); (have gc := (G5.below hT).cell); refine Goes.mk ?_; go_simp; first | exact goes_v | exact goes_b (by assumption) | (refine goes_enter ?_; first | fail))))); refine ObsK.nil ?_; intro wz hBz; simp only [finOn, List.drop_succ_cons, List.drop_zero, List.drop_nil]
      go_simp
      have R6 := R5.below hBz
      have G6 := G5.below hBz
      have T6 := below_then T5 hBz
      have gl := G6.lt
      have rl := R6.lt
      have fc6 := G6.cell.2
      clear R5 G5 T5 hBz
      go_wp2_with (first
        | (at_builtin; refine wpList_append_bs (w0 := wz) _ rfl _ _ _ rfl wz.heap.size 5 Try.underlying24 info_u8 none 0 0 [] rfl (own_nil _ _ _) A2 n2 c2 _ rfl (hbB.below T6) (Below.refl _ _) (by omega) (by first | exact Nat.le_refl _ | exact Below.size (Below.refl _ _) | omega | (simp <;> omega)) ?_; intro A7 n7 c7 w7 ho7 hB7 _ hz7; have u7 : n7 = n2 := (by have := ho7.len; have := hbB.len; simp at *; omega); subst u7; have g7 := (G6.below hB7).cell))
      have a7 := ho7.ge
      have k7 := ho7.bs
      have G8 : Blk (w7.setCell ⟨gp, 7, none⟩ (.slice A7 n7 c7)) gp #[.int .u8 (bt l 1), .int .u16 (get16 l 4), .bool k, .int .u8 (bt l 8), .int .u8 (bt l 9), .int .u32 (get32 l 12), .int .u32 (get32 l 16), .slice A7 n7 c7, .slice none 0 0] 26 := by
        have := (G6.below hB7).set_ 7 (.slice A7 n7 c7)
        simp only [List.setIfInBounds_toArray, List.set_cons_zero, List.set_cons_succ] at this
        exact this
      have R8 := (R6.below hB7).far ⟨gp, 7, none⟩ (by simp; omega) (.slice A7 n7 c7)
      have T8 := (below_then T6 hB7).setCell (p := ⟨gp, 7, none⟩) (by simp; omega) (.slice A7 n7 c7)
      have k8 := k7.away ⟨gp, 7, none⟩ (fun a e => by have := a7 a e; simp; omega) (.slice A7 n7 c7)
      have a8 : ∀ a, A7 = some a → gp < a.block := fun a e => by have := a7 a e; omega
      generalize w7.setCell ⟨gp, 7, none⟩ (.slice A7 n7 c7) = w8 at *
      clear g7 fc6 ho7 hB7 k7 a7 G6 R6 T6 gl rl hz7
      refine region_txt 6 (by kernel_rfl) (by kernel_rfl) ?_; (iterate 6 (first | (apply ObsK.skip (by rfl)) | (apply ObsK.v (by rfl); (intro wo hT; (repeat (first | (intro _ _ k; try have hcv := cv k))); (have gc := (G8.below hT).cell); refine Goes.mk ?_; go_simp; first | exact goes_v | exact goes_b (by assumption) | (refine goes_enter ?_; first | fail))) | (apply ObsK.b (by rfl); (intro wo hT; (repeat (first | (intro _ _ k; try have hcv := cv k))); (have gc := (G8.below hT).cell); refine Goes.mk ?_; go_simp; first | exact goes_v | exact goes_b (by assumption) | (refine goes_enter ?_; first | fail))))); refine ObsK.nil ?_; intro wz hBz; simp only [finOn, List.drop_succ_cons, List.drop_zero, List.drop_nil]
      go_simp
      have R9 := R8.below hBz
      have G9 := G8.below hBz
      have T9 := below_then T8 hBz
      have k9 := k8.below hBz
      have gl := G9.lt
      have rl := R9.lt
      have fc9 := G9.cell.2
      clear R8 G8 T8 hBz k8
      go_wp2_with (first
        | (at_builtin; refine wpList_append_bs (w0 := wz) _ rfl _ _ _ rfl wz.heap.size 5 Try.underlying24 info_u8 none 0 0 [] rfl (own_nil _ _ _) A3 n3 c3 _ rfl (hbC.below T9) (Below.refl _ _) (by omega) (by first | exact Nat.le_refl _ | exact Below.size (Below.refl _ _) | omega | (simp <;> omega)) ?_; intro A10 n10 c10 w10 ho10 hB10 _ hz10; have u10 : n10 = n3 := (by have := ho10.len; have := hbC.len; simp at *; omega); subst u10; have g10 := (G9.below hB10).cell; have r10 := (R9.below hB10).cell; (obtain ⟨w11, hw11, S11⟩ := store1 (G9.below hB10) 8 (.slice A10 n10 c10)); have g11 := S11.blk.cell; have R11 := S11.other (by omega) (R9.below hB10); have r11 := R11.cell; (obtain ⟨w12, hw12, S12⟩ := store9 R11 (.int .u8 (bt l 1)) (.int .u16 (get16 l 4)) (.bool k) (.int .u8 (bt l 8)) (.int .u8 (bt l 9)) (.int .u32 (get32 l 12)) (.int .u32 (get32 l 16)) (.slice A7 n7 c7) (.slice A10 n10 c10))))
      have a10 := ho10.ge
      have k10 := ho10.bs
      have T12 := S12.bel (S11.bel (below_then T9 hB10) (by omega)) (Nat.le_refl _)
      have K10 := S12.bs (S11.bs k10 (fun a e => by have := a10 a e; omega)) (fun a e => by have := a10 a e; omega)
      have K9 := S12.bs (S11.bs (k9.below hB10) (fun a e => by have := a8 a e; omega)) (fun a e => by have := a8 a e; omega)
      have pf := S12.blk.cell
      have hR : rdPk true l = rdP l := by unfold rdPk; rw [if_pos HE0.out]
      have e1 : (rdP l).keep = k := HK.out
      have e2 : (rdP l).opt = List.drop 20 (List.take h.toNat l) := by rw [← HH.out]; rfl
      have e3 : (rdP l).dat = List.drop h.toNat (List.take (g).toNat l) := by rw [← HH.out, ← HM.out]; rfl
      refine bodyPost_ret (v := .tuple #[.agg #[.int .u8 (bt l 1), .int .u16 (get16 l 4), .bool k, .int .u8 (bt l 8), .int .u8 (bt l 9), .int .u32 (get32 l 12), .int .u32 (get32 l 16), .slice A7 n7 c7, .slice A10 n10 c10], .int .i64 0]) (by simp [results, Try.results79, go_sem, pf]) rfl
        ⟨A7, n7, c7, A10, n10, c10, by rw [hR, HE0.out, e1]; rfl, by rw [hR, e2]; exact K9, by rw [hR, e3]; exact K10, fun a e => by have := a8 a e; omega, fun a e => by have := a10 a e; omega, T12⟩
    | false =>
      go_enter Try.func79, Try.ntmps79
      go_wp2_with (first
        | (go_at_call 55; ((with_reducible refine (rget16_any (some ⟨b, off, none⟩) n c l 2 _ hb1).mono ?_); rintro e w2 ⟨rfl, ⟨⟨d2, rfl⟩⟩⟩))
        | (go_at_call 57; ((with_reducible refine (rgood_any (some ⟨b, off, none⟩) h.toNat c (l.take h.toNat) (by omega) _ (hbA _ (hb1.drewN _))).mono ?_); rintro e w3 ⟨rfl, hB3⟩); have R3 := ((blk_new w #[.int .u8 0, .int .u16 0, .bool false, .int .u8 0, .int .u8 0, .int .u32 0, .int .u32 0, .slice none 0 0, .slice none 0 0] 26 _ rfl).drewN d2).below hB3; have b3 := (hb1.drewN d2).below hB3; have T3 := below_then (below_drewN ((Below.refl _ w).alloc (Nat.le_refl _) _) d2) hB3; (obtain ⟨wf, hwf, S⟩ := store9 R3 (.int .u8 0) (.int .u16 0) (.bool false) (.int .u8 0) (.int .u8 0) (.int .u32 0) (.int .u32 0) (.slice none 0 0) (.slice none 0 0)); have pf := S.blk.cell; have rc := R3.cell; have TF := S.bel T3 (Nat.le_refl _))
        | (go_at_call 55; ((with_reducible refine (rget16_any (some ⟨b, off, none⟩) n c l 6 _ b3).mono ?_); rintro e w4 ⟨rfl, ⟨⟨d4, rfl⟩⟩⟩)))
      all_goals have H1 := HE.out
      all_goals simp only [Bool.not_eq_true', Bool.not_eq_false', beq_iff_eq, beq_eq_false_iff_ne, bne_iff_ne, ne_eq, bne_eq_false_iff_eq, true_and, false_and, Bool.false_eq_true, if_false] at *
      all_goals first
        | (refine bodyPost_ret (v := .tuple #[.agg #[.int .u8 0, .int .u16 0, .bool false, .int .u8 0, .int .u8 0, .int .u32 0, .int .u32 0, .slice none 0 0, .slice none 0 0], .int .i64 5]) ?_ rfl (rdPost_no 5 (H1.trans ?_) (by omega) ?_); (focus (simp [results, Try.results79, go_sem, pf]; done)); (focus (repeat' split; all_goals first | rfl | omega)); (first | exact TF | exact below_drewN TF _))
        | (refine bodyPost_ret (v := .tuple #[.agg #[.int .u8 0, .int .u16 0, .bool false, .int .u8 0, .int .u8 0, .int .u32 0, .int .u32 0, .slice none 0 0, .slice none 0 0], .int .i64 7]) ?_ rfl (rdPost_no 7 (H1.trans ?_) (by omega) ?_); (focus (simp [results, Try.results79, go_sem, pf]; done)); (focus (repeat' split; all_goals first | rfl | omega)); (first | exact TF | exact below_drewN TF _))
        | (refine bodyPost_ret (v := .tuple #[.agg #[.int .u8 0, .int .u16 0, .bool false, .int .u8 0, .int .u8 0, .int .u32 0, .int .u32 0, .slice none 0 0, .slice none 0 0], .int .i64 4]) ?_ rfl (rdPost_no 4 (H1.trans ?_) (by omega) ?_); (focus (simp [results, Try.results79, go_sem, pf]; done)); (focus (repeat' split; all_goals first | rfl | omega)); (first | exact TF | exact below_drewN TF _))
        | (refine bodyPost_ret (v := .tuple #[.agg #[.int .u8 0, .int .u16 0, .bool false, .int .u8 0, .int .u8 0, .int .u32 0, .int .u32 0, .slice none 0 0, .slice none 0 0], .int .i64 3]) ?_ rfl (rdPost_no 3 (H1.trans ?_) (by omega) ?_); (focus (simp [results, Try.results79, go_sem, pf]; done)); (focus (repeat' split; all_goals first | rfl | omega)); (first | exact TF | exact below_drewN TF _))
        | skip
      have hE : rdE false l = 0 := by
        rw [H1]
        repeat' split
        all_goals first | rfl | omega
      have HE0 := Lib.hid hE
      have b4 := b3.drewN d4
      have R4 := R3.drewN d4
      have T4 := below_drewN T3 d4
      have hrl := R4.lt
      have hcutB : ∀ W, (Instr.slice 24 (.slice (some ⟨b, off, none⟩) n c) (some (.int .i64 20)) (some (.int .i64 h)) none).run Try.prog W = _ := fun W => cut_lh Try.underlying24 hi8 hs8 (some ⟨b, off, none⟩) n c .i64 .i64 20 h (by omega) (by omega) (by omega) W
      obtain ⟨A2, n2, c2, eA, en, ec, hbB⟩ := hb.cutE (lo := 20) (hi := h.toNat) (by omega) (by omega)
      simp only [show (20 : Int).toNat = 20 from rfl, eA, en, ec] at hcutB
      clear eA en ec
      have hcutC : ∀ W, (Instr.slice 24 (.slice (some ⟨b, off, none⟩) n c) (some (.int .i64 h)) (some (.int .i64 g)) none).run Try.prog W = _ := fun W => cut_lh Try.underlying24 hi8 hs8 (some ⟨b, off, none⟩) n c .i64 .i64 h g (by omega) (by omega) (by omega) W
      obtain ⟨A3, n3, c3, eA, en, ec, hbC⟩ := hb.cutE (lo := h.toNat) (hi := (g).toNat) (by omega) (by omega)
      simp only [eA, en, ec] at hcutC
      clear eA en ec
      have m2 := hbB.max
      have m3 := hbC.max
      have x1 : (1 : Int) < n := by omega
      have x8 : (8 : Int) < n := by omega
      have x9 : (9 : Int) < n := by omega
      obtain ⟨k, hk⟩ : ∃ k, decide (16384 ≤ f) = k := ⟨_, rfl⟩
      have HK : Hid ((get16 l 6 != 0) = k) := by
        unfold Hid
        rw [HF.out, ← hk]
        by_cases z : f = 0
        · rw [z]; rfl
        · rw [show (f != 0) = true from by simpa using z]; exact (decide_eq_true (by omega)).symm
      generalize w3.drewN d4 = w4 at *
      clear hE H1 hs hf hcutA hbA hwf S pf rc TF R3 T3 b3 hB3 hb1 c0 hsd hx4
      refine region_txt 19 (by kernel_rfl) (by kernel_rfl) ?_; (iterate 19 (first | (apply ObsK.skip (by rfl)) | (apply ObsK.v (by rfl); (intro wo hT; (repeat (first | (intro v hv; ((skip))) | (intro _ _ k; try have hcv := cv k))); (have bo := b4.below hT; have c1 := bo.at_ (j := 1) (by omega); have c8 := bo.at_ (j := 8) (by omega); have c9 := bo.at_ (j := 9) (by omega); have zo : w.heap.size + 1 ≤ wo.heap.size := Nat.le_trans hrl hT.size); refine Goes.mk ?_; go_simp; first | exact goes_v | exact goes_b (by assumption) | exact goes_isP zo | (refine goes_enter ?_; first | (go_at_call 55; ((with_reducible refine (rget16_any (some ⟨b, off, none⟩) n c l 4 wo bo).mono ?_); rintro e w5 ⟨rfl, hD5⟩); exact ret_v hD5.bel) | (go_at_call 56; ((with_reducible refine (rget32_any (some ⟨b, off, none⟩) n c l 12 wo bo).mono ?_); rintro e w5 ⟨rfl, hD5⟩); exact ret_v hD5.bel) | (go_at_call 56; ((with_reducible refine (rget32_any (some ⟨b, off, none⟩) n c l 16 wo bo).mono ?_); rintro e w5 ⟨rfl, hD5⟩); exact ret_v hD5.bel)))) | (apply ObsK.b (by rfl); (intro wo hT; (repeat (first | (intro v hv; ((skip))) | (intro _ _ k; try have hcv := cv k))); (have bo := b4.below hT; have c1 := bo.at_ (j := 1) (by omega); have c8 := bo.at_ (j := 8) (by omega); have c9 := bo.at_ (j := 9) (by omega); have zo : w.heap.size + 1 ≤ wo.heap.size := Nat.le_trans hrl hT.size); refine Goes.mk ?_; go_simp; first | exact goes_v | exact goes_b (by assumption) | exact goes_isP zo | (refine goes_enter ?_; first | (go_at_call 55; ((with_reducible refine (rget16_any (some ⟨b, off, none⟩) n c l 4 wo bo).mono ?_); rintro e w5 ⟨rfl, hD5⟩); exact ret_v hD5.bel) | (go_at_call 56; ((with_reducible refine (rget32_any (some ⟨b, off, none⟩) n c l 12 wo bo).mono ?_); rintro e w5 ⟨rfl, hD5⟩); exact ret_v hD5.bel) | (go_at_call 56; ((with_reducible refine (rget32_any (some ⟨b, off, none⟩) n c l 16 wo bo).mono ?_); rintro e w5 ⟨rfl, hD5⟩); exact ret_v hD5.bel)))) | (apply ObsK.p (q := isP (w.heap.size + 1)) (by rfl) st_isP; (intro wo hT; (repeat (first | (intro v hv; ((skip))) | (intro _ _ k; try have hcv := cv k))); (have bo := b4.below hT; have c1 := bo.at_ (j := 1) (by omega); have c8 := bo.at_ (j := 8) (by omega); have c9 := bo.at_ (j := 9) (by omega); have zo : w.heap.size + 1 ≤ wo.heap.size := Nat.le_trans hrl hT.size); refine Goes.mk ?_; go_simp; first | exact goes_v | exact goes_b (by assumption) | exact goes_isP zo | (refine goes_enter ?_; first | (go_at_call 55; ((with_reducible refine (rget16_any (some ⟨b, off, none⟩) n c l 4 wo bo).mono ?_); rintro e w5 ⟨rfl, hD5⟩); exact ret_v hD5.bel) | (go_at_call 56; ((with_reducible refine (rget32_any (some ⟨b, off, none⟩) n c l 12 wo bo).mono ?_); rintro e w5 ⟨rfl, hD5⟩); exact ret_v hD5.bel) | (go_at_call 56; ((with_reducible refine (rget32_any (some ⟨b, off, none⟩) n c l 16 wo bo).mono ?_); rintro e w5 ⟨rfl, hD5⟩); exact ret_v hD5.bel)))))); refine ObsK.nil ?_; intro wz hBz; simp only [finOn, List.drop_succ_cons, List.drop_zero, List.drop_nil]
      intro vp hvp
      obtain ⟨gp, rfl, gB, G⟩ := hvp
      go_simp
      obtain ⟨wg, hwg, SG⟩ := store9 G (.int .u8 (bt l 1)) (.int .u16 (get16 l 4)) (.bool k) (.int .u8 (bt l 8)) (.int .u8 (bt l 9)) (.int .u32 (get32 l 12)) (.int .u32 (get32 l 16)) (.slice none 0 0) (.slice none 0 0)
      have gc := G.cell
      have R5 := SG.other (by omega) (R4.below hBz)
      have T5 := SG.bel (below_then T4 hBz) (by omega)
      have G5 := SG.blk
      go_wp2_with fail
      clear hwg SG gc G R4 T4 b4 hBz hk
      refine region_txt 5 (by kernel_rfl) (by kernel_rfl) ?_; (iterate 5 (first | (apply ObsK.skip (by rfl)) | (apply ObsK.v (by rfl); (intro wo hT; (repeat (first | (intro _ _ k; try have hcv := cv k))); (have gc := (G5.below hT).cell); refine Goes.mk ?_; go_simp; first | exact goes_v | exact goes_b (by assumption) | (refine goes_enter ?_; first | fail))) | (apply ObsK.b (by rfl); (intro wo hT; (repeat (first | (intro _ _ k; try have hcv := cv k))); (have gc := (G5.below hT).cell); refine Goes.mk ?_; go_simp; first | exact goes_v | exact goes_b (by assumption) | (refine goes_enter ?_; first | fail))))); refine ObsK.nil ?_; intro wz hBz; simp only [finOn, List.drop_succ_cons, List.drop_zero, List.drop_nil]
      go_simp
      have R6 := R5.below hBz
      have G6 := G5.below hBz
      have T6 := below_then T5 hBz
      have gl := G6.lt
      have rl := R6.lt
      have fc6 := G6.cell.2
      clear R5 G5 T5 hBz
      go_wp2_with (first
        | (at_builtin; refine wpList_append_bs (w0 := wz) _ rfl _ _ _ rfl wz.heap.size 5 Try.underlying24 info_u8 none 0 0 [] rfl (own_nil _ _ _) A2 n2 c2 _ rfl (hbB.below T6) (Below.refl _ _) (by omega) (by first | exact Nat.le_refl _ | exact Below.size (Below.refl _ _) | omega | (simp <;> omega)) ?_; intro A7 n7 c7 w7 ho7 hB7 _ hz7; have u7 : n7 = n2 := (by have := ho7.len; have := hbB.len; simp at *; omega); subst u7; have g7 := (G6.below hB7).cell))
      have a7 := ho7.ge
      have k7 := ho7.bs
      have G8 : Blk (w7.setCell ⟨gp, 7, none⟩ (.slice A7 n7 c7)) gp #[.int .u8 (bt l 1), .int .u16 (get16 l 4), .bool k, .int .u8 (bt l 8), .int .u8 (bt l 9), .int .u32 (get32 l 12), .int .u32 (get32 l 16), .slice A7 n7 c7, .slice none 0 0] 26 := by
        have := (G6.below hB7).set_ 7 (.slice A7 n7 c7)
        simp only [List.setIfInBounds_toArray, List.set_cons_zero, List.set_cons_succ] at this
        exact this
      have R8 := (R6.below hB7).far ⟨gp, 7, none⟩ (by simp; omega) (.slice A7 n7 c7)
      have T8 := (below_then T6 hB7).setCell (p := ⟨gp, 7, none⟩) (by simp; omega) (.slice A7 n7 c7)
      have k8 := k7.away ⟨gp, 7, none⟩ (fun a e => by have := a7 a e; simp; omega) (.slice A7 n7 c7)
      have a8 : ∀ a, A7 = some a → gp < a.block := fun a e => by have := a7 a e; omega
      generalize w7.setCell ⟨gp, 7, none⟩ (.slice A7 n7 c7) = w8 at *
      clear g7 fc6 ho7 hB7 k7 a7 G6 R6 T6 gl rl hz7
      refine region_txt 6 (by kernel_rfl) (by kernel_rfl) ?_; (iterate 6 (first | (apply ObsK.skip (by rfl)) | (apply ObsK.v (by rfl); (intro wo hT; (repeat (first | (intro _ _ k; try have hcv := cv k))); (have gc := (G8.below hT).cell); refine Goes.mk ?_; go_simp; first | exact goes_v | exact goes_b (by assumption) | (refine goes_enter ?_; first | fail))) | (apply ObsK.b (by rfl); (intro wo hT; (repeat (first | (intro _ _ k; try have hcv := cv k))); (have gc := (G8.below hT).cell); refine Goes.mk ?_; go_simp; first | exact goes_v | exact goes_b (by assumption) | (refine goes_enter ?_; first | fail))))); refine ObsK.nil ?_; intro wz hBz; simp only [finOn, List.drop_succ_cons, List.drop_zero, List.drop_nil]
      go_simp
      have R9 := R8.below hBz
      have G9 := G8.below hBz
      have T9 := below_then T8 hBz
      have k9 := k8.below hBz
      have gl := G9.lt
      have rl := R9.lt
      have fc9 := G9.cell.2
      clear R8 G8 T8 hBz k8
      go_wp2_with (first
        | (at_builtin; refine wpList_append_bs (w0 := wz) _ rfl _ _ _ rfl wz.heap.size 5 Try.underlying24 info_u8 none 0 0 [] rfl (own_nil _ _ _) A3 n3 c3 _ rfl (hbC.below T9) (Below.refl _ _) (by omega) (by first | exact Nat.le_refl _ | exact Below.size (Below.refl _ _) | omega | (simp <;> omega)) ?_; intro A10 n10 c10 w10 ho10 hB10 _ hz10; have u10 : n10 = n3 := (by have := ho10.len; have := hbC.len; simp at *; omega); subst u10; have g10 := (G9.below hB10).cell; have r10 := (R9.below hB10).cell; (obtain ⟨w11, hw11, S11⟩ := store1 (G9.below hB10) 8 (.slice A10 n10 c10)); have g11 := S11.blk.cell; have R11 := S11.other (by omega) (R9.below hB10); have r11 := R11.cell; (obtain ⟨w12, hw12, S12⟩ := store9 R11 (.int .u8 (bt l 1)) (.int .u16 (get16 l 4)) (.bool k) (.int .u8 (bt l 8)) (.int .u8 (bt l 9)) (.int .u32 (get32 l 12)) (.int .u32 (get32 l 16)) (.slice A7 n7 c7) (.slice A10 n10 c10))))
      have a10 := ho10.ge
      have k10 := ho10.bs
      have T12 := S12.bel (S11.bel (below_then T9 hB10) (by omega)) (Nat.le_refl _)
      have K10 := S12.bs (S11.bs k10 (fun a e => by have := a10 a e; omega)) (fun a e => by have := a10 a e; omega)
      have K9 := S12.bs (S11.bs (k9.below hB10) (fun a e => by have := a8 a e; omega)) (fun a e => by have := a8 a e; omega)
      have pf := S12.blk.cell
      have hR : rdPk false l = rdP l := by unfold rdPk; rw [if_pos HE0.out]
      have e1 : (rdP l).keep = k := HK.out
      have e2 : (rdP l).opt = List.drop 20 (List.take h.toNat l) := by rw [← HH.out]; rfl
      have e3 : (rdP l).dat = List.drop h.toNat (List.take (g).toNat l) := by rw [← HH.out, ← HM.out]; rfl
      refine bodyPost_ret (v := .tuple #[.agg #[.int .u8 (bt l 1), .int .u16 (get16 l 4), .bool k, .int .u8 (bt l 8), .int .u8 (bt l 9), .int .u32 (get32 l 12), .int .u32 (get32 l 16), .slice A7 n7 c7, .slice A10 n10 c10], .int .i64 0]) (by simp [results, Try.results79, go_sem, pf]) rfl
        ⟨A7, n7, c7, A10, n10, c10, by rw [hR, HE0.out, e1]; rfl, by rw [hR, e2]; exact K9, by rw [hR, e3]; exact K10, fun a e => by have := a8 a e; omega, fun a e => by have := a10 a e; omega, T12⟩
theorem rread_any (A : Option Addr) (n c : Nat) (l : List UInt8) (q : Bool) (w : World) (hb : Bs w A n c l) :
    Calls Try.prog 79 #[.slice A n c, .bool q] w (RdPost w q l) := by
  by_cases h : lenE q l = 0
  · exact rread_ok A n c l q w hb h
  · exact rread_len A n c l q w hb h
end Go.Proofs.Ythgoffbfgdgkpaa

namespace Go.Proofs.Ythgoffbfgdgkpaa
open Go.RowKit
set_option linter.unusedVariables false
set_option linter.unusedSimpArgs false
set_option maxHeartbeats 4000000
set_option maxRecDepth 100000

theorem rQuote_any (A : Option Addr) (n c : Nat) (l : List UInt8) (w : World) (hb : Bs w A n c l) :
    Calls Try.prog 68 #[.slice A n c] w (RdPost w true l) := by
  go_enter Try.func68, Try.ntmps68
  go_wp2_with fail
  refine (rread_any A n c l true _ (hb.alloc _)).mono ?_
  intro e w1 hP
  obtain ⟨A1, n1, c1, A2, n2, c2, rfl, k1, k2, a1, a2, T1⟩ := hP.out
  have P1 := (blk_new w #[.int .u8 0, .int .u16 0, .bool false, .int .u8 0, .int .u8 0, .int .u32 0, .int .u32 0, .slice none 0 0, .slice none 0 0] 26 _ rfl).below T1
  have T := below_then ((Below.refl _ w).alloc (Nat.le_refl _) _) T1
  clear hP T1
  have pc := P1.cell
  generalize hp : rdPk true l = p at *
  generalize he : rdE true l = e at *
  have HP := Lib.hid hp
  have HE := Lib.hid he
  clear hp he
  go_wp2_with fail
  obtain ⟨w2, hw2, S⟩ := store9 P1 (.int .u8 p.tos) (.int .u16 p.id) (.bool p.keep) (.int .u8 p.ttl) (.int .u8 p.proto) (.int .u32 p.src) (.int .u32 p.dst) (.slice A1 n1 c1) (.slice A2 n2 c2)
  rw [hw2]
  have K1 := S.bs k1 (fun x e => by have := a1 x e; simp at this; omega)
  have K2 := S.bs k2 (fun x e => by have := a2 x e; simp at this; omega)
  have TF := S.bel T (Nat.le_refl _)
  have pf := S.blk.cell
  clear hw2 S P1 pc k1 k2 T
  refine bodyPost_ret (v := .tuple #[(.agg #[.int .u8 (p).tos, .int .u16 (p).id, .bool (p).keep, .int .u8 (p).ttl, .int .u8 (p).proto, .int .u32 (p).src, .int .u32 (p).dst, .slice A1 n1 c1, .slice A2 n2 c2]), .int .i64 e]) (by simp [results, Try.results68, go_sem, pf]) rfl ⟨A1, n1, c1, A2, n2, c2, by rw [HP.out, HE.out], by rw [HP.out]; exact K1, by rw [HP.out]; exact K2, fun x e => by have := a1 x e; simp at this; omega, fun x e => by have := a2 x e; simp at this; omega, TF⟩
end Go.Proofs.Ythgoffbfgdgkpaa

namespace Go.Proofs.Ythgoffbfgdgkpaa
open Go.RowKit
set_option linter.unusedVariables false
set_option linter.unusedSimpArgs false
set_option maxHeartbeats 4000000
set_option maxRecDepth 100000

theorem ipQuote_v {l : List UInt8} {P : Pkt} {E : Int} (hP : rdPk true l = P) (hE : rdE true l = E) (A : Option Addr) (n c : Nat) (w : World) (hb : Bs w A n c l) :
    Calls Try.prog 43 #[.slice A n c] w fun e w' => ∃ A1 n1 c1 A2 n2 c2, e = .returned (.tuple #[(.agg #[.int .u8 (P).tos, .int .u16 (P).id, .bool (P).keep, .int .u8 (P).ttl, .int .u8 (P).proto, .int .u32 (P).src, .int .u32 (P).dst, .slice A1 n1 c1, .slice A2 n2 c2]), .int .i64 E]) ∧ Bs w' A1 n1 c1 P.opt ∧ Bs w' A2 n2 c2 P.dat ∧ Below w.heap.size w w' := by
  refine (ipQuote_any A n c l w hb).mono ?_
  intro e w' hQ
  obtain ⟨A1, n1, c1, A2, n2, c2, rfl, k1, k2, a1, a2, T⟩ := hQ.out
  rw [hP] at k1 k2 ⊢
  rw [hE]
  exact ⟨A1, n1, c1, A2, n2, c2, rfl, k1, k2, T⟩
end Go.Proofs.Ythgoffbfgdgkpaa

namespace Go.Proofs.Ythgoffbfgdgkpaa
open Go.RowKit
set_option linter.unusedVariables false
set_option linter.unusedSimpArgs false
set_option maxHeartbeats 4000000
set_option maxRecDepth 100000

def hasB (l : List UInt8) (n : Nat) (v : Int) : Bool := decide (∃ j, j < n ∧ bt l j = v)
theorem hasB_iff (l : List UInt8) (n : Nat) (v : Int) : hasB l n v = true ↔ ∃ j, j < n ∧ bt l j = v := by simp [hasB]
theorem index_any (A : Option Addr) (n c : Nat) (l : List UInt8) (v : Int) (w : World) (hb : Bs w A n c l) :
    Calls Try.prog 76 #[.slice A n c, .int .u8 v] w fun e w' => (∃ r : Int, e = .returned (.int .i64 r) ∧ decide (0 ≤ r) = hasB l n v) ∧ w = w' := by
  have hmax := hb.max
  go_enter Try.func76, Try.ntmps76
  go_wp2_with fail
  go_loop [8] (fun i => ∃ k : Nat, k ≤ n ∧ i = .int .i64 k ∧ Hid (∀ j, j < k → bt l j ≠ v)) (fun i => n - (intOf i).toNat)
  case atStart => exact ⟨0, by omega, rfl, fun j hj => by omega⟩
  case round =>
    obtain ⟨k, hk, rfl, hno⟩ := hrel
    by_cases hlt : k < n
    · obtain ⟨g, o, rfl, hc⟩ := hb.rd (by omega)
      have ck := hc k hlt
      have hki : (k : Int) < n := by omega
      clear hc
      by_cases hv : bt l k = v
      · have hv' : (v == bt l k) = true := by simp [hv]
        have HV := Lib.hid hv
        clear hv
        go_wp2_with fail
        go_ret
        exact ⟨⟨_, rfl, by rw [decide_eq_true (show (0 : Int) ≤ k by omega)]; exact ((hasB_iff l n v).2 ⟨k, hlt, HV.out⟩).symm⟩, rfl⟩
      · have hv' : (v == bt l k) = false := by simp; exact fun e => hv e.symm
        have HV := Lib.hid hv
        clear hv
        go_wp2_with fail
        exact ⟨⟨k + 1, by omega, by go_num, fun j hj => by
          by_cases e : j = k
          · subst e; exact HV.out
          · exact hno.out j (by omega)⟩, by simp [intOf]; omega⟩
    · obtain rfl : k = n := by omega
      go_wp2_with fail
      go_ret
      refine ⟨⟨_, rfl, ?_⟩, rfl⟩
      have h1 : hasB l k v = false := by
        cases h : hasB l k v with
        | false => rfl
        | true =>
          obtain ⟨j, hj, e⟩ := (hasB_iff l k v).1 h
          exact absurd e (hno.out j hj)
      rw [h1]
      rfl
theorem contains_any (A : Option Addr) (n c : Nat) (l : List UInt8) (v : Int) (w : World) (hb : Bs w A n c l) :
    Calls Try.prog 65 #[.slice A n c, .int .u8 v] w fun e w' => e = .returned (.bool (hasB l n v)) ∧ w = w' := by
  go_enter Try.func65, Try.ntmps65
  go_wp2_with (go_at_call 76; ((with_reducible refine (index_any A n c l v _ hb).mono ?_); rintro e w1 ⟨⟨r, rfl, hr⟩, rfl⟩))
  go_ret
  exact ⟨rfl, rfl⟩
theorem iserr_any (m : Msg) (A1 : Option Addr) (n1 c1 : Nat) (w : World) :
    Calls Try.prog 42 #[(.agg #[.int .u8 (m).ty, .int .u8 (m).code, .int .u32 (m).rest, .slice A1 n1 c1])] w fun e w' => e = .returned (.bool (isErrM m)) ∧ Below w.heap.size w w' := by
  have hl : ∀ W : World, Bs (W.alloc (.cells #[.int .u8 3, .int .u8 11, .int .u8 12] 5)) (some ⟨W.heap.size, 0, none⟩) 3 3 [3, 11, 12] := fun W => bs_lit [3, 11, 12] 3 rfl (by omega)
  have he : hasB [3, 11, 12] 3 m.ty = isErrM m := by
    rw [Bool.eq_iff_iff, hasB_iff]
    unfold isErrM
    simp only [Bool.or_eq_true, beq_iff_eq]
    constructor
    · rintro ⟨j, hj, e⟩
      have : j = 0 ∨ j = 1 ∨ j = 2 := by omega
      rcases this with rfl | rfl | rfl
      · exact .inl (.inl e.symm)
      · exact .inl (.inr e.symm)
      · exact .inr e.symm
    · rintro ((e | e) | e)
      · exact ⟨0, by omega, e.symm⟩
      · exact ⟨1, by omega, e.symm⟩
      · exact ⟨2, by omega, e.symm⟩
  have HE := Lib.hid he
  clear he
  obtain ⟨w1, hw1⟩ : ∃ w1, w.alloc (.cells #[.int .u8 (m).ty, .int .u8 (m).code, .int .u32 (m).rest, .slice A1 n1 c1] 49) = w1 := ⟨_, rfl⟩
  have P1 : Blk w1 w.heap.size #[.int .u8 (m).ty, .int .u8 (m).code, .int .u32 (m).rest, .slice A1 n1 c1] 49 := by rw [← hw1]; exact blk_new w _ _ _ rfl
  have R1 : Below w.heap.size w w1 := by rw [← hw1]; (repeat (first | with_reducible exact Below.refl _ _ | with_reducible refine below_drew ?_ | with_reducible refine below_drewN ?_ _ | with_reducible refine below_alloc ?_ (Nat.le_refl _) _ | with_reducible refine Below.setCell ?_ (by first | exact Nat.le_refl _ | (simp only []; omega)) _ | with_reducible assumption))
  have pl := P1.lt
  have pc := P1.cell
  go_enter Try.func42, Try.ntmps42
  go_wp2_with (go_at_call 65; ((with_reducible refine (contains_any _ 3 3 [3, 11, 12] m.ty _ (hl _)).mono ?_); rintro e w2 ⟨rfl, rfl⟩))
  go_ret
  exact ⟨by rw [HE.out]; rfl, below_alloc R1 (Nat.le_refl _) _⟩
end Go.Proofs.Ythgoffbfgdgkpaa


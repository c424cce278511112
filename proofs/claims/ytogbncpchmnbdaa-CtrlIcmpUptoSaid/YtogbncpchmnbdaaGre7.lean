/- The document's frame of a packet. -/
import Derived.Test.YtogbncpchmnbdaaGre5
namespace Go.Proofs.Ytogbncpchmnbdaa
open Go.RowKit
set_option linter.unusedVariables false
set_option linter.unusedSimpArgs false
set_option linter.unusedSimpArgs false
set_option maxHeartbeats 4000000
set_option maxRecDepth 100000

theorem rbegin_any (A : Option Addr) (n c : Nat) (l : List UInt8) (w : World) (hb : Bs w A n c l) :
    Calls Try.prog 56 #[.slice A n c] w fun e w' => e = .returned (.bool (decide (4 ≤ (n : Int)) && begB l)) ∧ w = w' := by
  by_cases h : 4 ≤ (n : Int)
  · have b2 := hb.max
    obtain ⟨b, off, rfl⟩ := hb.some_ (by omega)
    have c0 := hb.at_ (j := 0) (by omega)
    rw [Nat.add_zero] at c0
    have c1 := hb.at_ (j := 1) (by omega)
    have c2' := hb.at_ (j := 2) (by omega)
    have c3 := hb.at_ (j := 3) (by omega)
    have q0 : 0 < n := by omega
    have q0' : (0 : Int) < n := by omega
    have q1 : (1 : Int) < n := by omega
    have q2 : (2 : Int) < n := by omega
    have q3 : (3 : Int) < n := by omega
    go_enter Try.func56, Try.ntmps56
    go_wp2_with fail
    all_goals go_ret
    all_goals refine ⟨?_, rfl⟩
    all_goals simp_all [begB]
  · have b2 := hb.max
    go_enter Try.func56, Try.ntmps56
    go_wp2_with fail
    all_goals go_ret
    all_goals refine ⟨?_, rfl⟩
    all_goals rw [decide_eq_false (show ¬ (4 : Int) ≤ n by omega)]
    all_goals rfl
theorem rgre_no (p : Pkt) (A1 : Option Addr) (n1 c1 : Nat) (A2 : Option Addr) (n2 c2 : Nat) (w : World) (k2 : Bs w A2 n2 c2 p.dat) (E : Int)
    (h : (E = 12 ∧ (p.proto != 47) = true) ∨ (E = 3 ∧ (p.proto != 47) = false ∧ (n2 : Int) < 8) ∨ (E = 4 ∧ (p.proto != 47) = false ∧ 8 ≤ (n2 : Int) ∧ begB p.dat = false)) :
    Calls Try.prog 33 #[(.agg #[.int .u8 (p).tos, .int .u16 (p).id, .bool (p).keep, .int .u8 (p).ttl, .int .u8 (p).proto, .int .u32 (p).src, .int .u32 (p).dst, .slice A1 n1 c1, .slice A2 n2 c2])] w (FrPost w zF E) := by
  have b2 := k2.max
  obtain ⟨k, hk⟩ : ∃ k : Nat, w.heap.size = k := ⟨_, rfl⟩
  obtain ⟨w1, hw1⟩ : ∃ W, ((w.alloc (.cells #[.int .u8 (p).tos, .int .u16 (p).id, .bool (p).keep, .int .u8 (p).ttl, .int .u8 (p).proto, .int .u32 (p).src, .int .u32 (p).dst, .slice A1 n1 c1, .slice A2 n2 c2] 26)).alloc (.cells #[.int .u16 0, .bool false, .bool false, .int .u32 0, .int .u32 0, .slice none 0 0] 30)) = W := ⟨_, rfl⟩
  have P1 : Blk w1 k #[.int .u8 (p).tos, .int .u16 (p).id, .bool (p).keep, .int .u8 (p).ttl, .int .u8 (p).proto, .int .u32 (p).src, .int .u32 (p).dst, .slice A1 n1 c1, .slice A2 n2 c2] 26 := by rw [← hw1]; exact ((blk_new _ _ _ k (by simp [hk])).alloc _)
  have Z1 : Blk w1 (k + 1) #[.int .u16 0, .bool false, .bool false, .int .u32 0, .int .u32 0, .slice none 0 0] 30 := by rw [← hw1]; exact (blk_new _ _ _ (k + 1) (by simp [hk]))
  have R1 : Below w.heap.size w w1 := by rw [← hw1]; (repeat (first | with_reducible exact Below.refl _ _ | with_reducible refine below_drew ?_ | with_reducible refine below_drewN ?_ _ | with_reducible refine below_alloc ?_ (Nat.le_refl _) _ | with_reducible refine Below.setCell ?_ (by first | exact Nat.le_refl _ | (simp only []; omega)) _ | with_reducible assumption))
  have Pc1 := P1.cell
  have Zc1 := Z1.cell
  have Pl1 := P1.lt
  have Zl1 := Z1.lt
  have x1 := (k2).below R1
  obtain ⟨wf, hwf, Sf⟩ := store6 Z1 (.int .u16 0) (.bool false) (.bool false) (.int .u32 0) (.int .u32 0) (.slice none 0 0)
  have pf := Sf.blk.cell
  have Tf := Sf.bel R1 (by omega)
  rcases h with ⟨rfl, h1⟩ | ⟨rfl, h1, h2⟩ | ⟨rfl, h1, h2, h3⟩
  · go_enter Try.func33, Try.ntmps33
    go_wp2_with fail
    exact bodyPost_ret (by simp [results, Try.results33, go_sem, pf]) rfl (frPost_no Tf)
  · go_enter Try.func33, Try.ntmps33
    go_wp2_with fail
    exact bodyPost_ret (by simp [results, Try.results33, go_sem, pf]) rfl (frPost_no Tf)
  · have hb := rbegin_any A2 n2 c2 p.dat w1 x1
    rw [h3, Bool.and_false] at hb
    clear h3
    go_enter Try.func33, Try.ntmps33
    go_wp2_with (go_at_call 56; go_loud ((with_reducible refine (hb).mono ?_); rintro e w2 ⟨rfl, rfl⟩))
    exact bodyPost_ret (by simp [results, Try.results33, go_sem, pf]) rfl (frPost_no Tf)
theorem rgre_yes (p : Pkt) (A1 : Option Addr) (n1 c1 : Nat) (A2 : Option Addr) (n2 c2 : Nat) (w : World) (k2 : Bs w A2 n2 c2 p.dat) (h1 : (p.proto != 47) = false) (h2 : 8 ≤ (n2 : Int)) (HH : begB p.dat = true) :
    Calls Try.prog 33 #[(.agg #[.int .u8 (p).tos, .int .u16 (p).id, .bool (p).keep, .int .u8 (p).ttl, .int .u8 (p).proto, .int .u32 (p).src, .int .u32 (p).dst, .slice A1 n1 c1, .slice A2 n2 c2])] w (FrPost w (geF p) (geE p)) := by
  have b2 := k2.max
  have hcap := k2.cap
  have hlL : p.dat.take n2 = p.dat := List.take_of_length_le (by rw [k2.len]; exact Nat.le_refl _)
  obtain ⟨i8, hi8, -, hs8, -⟩ := info_parts info_u8
  obtain ⟨b, off, rfl⟩ := k2.some_ (by omega)
  obtain ⟨l, hl⟩ : ∃ l, p.dat = l := ⟨_, rfl⟩
  rw [hl] at k2 hlL HH
  have HLL := Lib.hid hl
  clear hl
  obtain ⟨s, hs⟩ : ∃ s, (bt l 0 == 48) = s := ⟨_, rfl⟩
  obtain ⟨a, ha⟩ : ∃ a, (bt l 1 == 129) = a := ⟨_, rfl⟩
  have hsB : sB l = s := hs
  have haB : aB l = a := ha
  have q0 : 0 < n2 := by omega
  have q0' : (0 : Int) < n2 := by omega
  have q1 : (1 : Int) < n2 := by omega
  have g40 := get16_lo l 4
  have g41 := get16_hi l 4
  obtain ⟨nn, hnn⟩ : ∃ nn, get16 l 4 = nn := ⟨_, rfl⟩
  rw [hnn] at g40 g41
  obtain ⟨H, hH⟩ : ∃ H : Nat, hdG l = H := ⟨_, rfl⟩
  have hHd : H = 8 + (if s then 4 else 0) + (if a then 4 else 0) := by rw [← hH]; unfold hdG; rw [hsB, haB]
  have HRd : Hid (rdF l = ⟨get16 l 6, s, a, (if s = true then get32 l 8 else 0), (if a = true then get32 l (if s = true then 12 else 8) else 0), l.drop H⟩) := by
    unfold Hid rdF
    rw [hH, hsB, haB]
  have hb := rbegin_any (some ⟨b, off, none⟩) n2 c2 l
  rw [HH, decide_eq_true (show (4 : Int) ≤ n2 by omega)] at hb
  have HE3 : Hid ((n2 : Int) < (H : Int) + nn → geF p = zF ∧ geE p = 3) := fun h => by
    have e : geE p = 3 := by
      unfold geE
      rw [if_neg (by simpa using h1), HLL.out, k2.len, if_neg (by omega), if_neg (by rw [HH]; decide), hH, hnn, if_pos h]
    exact ⟨by unfold geF; rw [e, if_neg (by decide)], e⟩
  have HE4 : Hid ((H : Int) + nn < (n2 : Int) → geF p = zF ∧ geE p = 4) := fun h => by
    have e : geE p = 4 := by
      unfold geE
      rw [if_neg (by simpa using h1), HLL.out, k2.len, if_neg (by omega), if_neg (by rw [HH]; decide), hH, hnn, if_neg (by omega), if_pos h]
    exact ⟨by unfold geF; rw [e, if_neg (by decide)], e⟩
  have HE0 : Hid ((H : Int) + nn = (n2 : Int) → geF p = rdF l ∧ geE p = 0) := fun h => by
    have e : geE p = 0 := by
      unfold geE
      rw [if_neg (by simpa using h1), HLL.out, k2.len, if_neg (by omega), if_neg (by rw [HH]; decide), hH, hnn, if_neg (by omega), if_neg (by omega)]
    exact ⟨by unfold geF; rw [e, if_pos rfl, HLL.out], e⟩
  have HNN := Lib.hid hnn
  clear hsB haB HH hH hnn
  obtain ⟨k, hk⟩ : ∃ k : Nat, w.heap.size = k := ⟨_, rfl⟩
  obtain ⟨w1, hw1⟩ : ∃ W, ((w.alloc (.cells #[.int .u8 (p).tos, .int .u16 (p).id, .bool (p).keep, .int .u8 (p).ttl, .int .u8 (p).proto, .int .u32 (p).src, .int .u32 (p).dst, .slice A1 n1 c1, .slice (some ⟨b, off, none⟩) n2 c2] 26)).alloc (.cells #[.int .u16 0, .bool false, .bool false, .int .u32 0, .int .u32 0, .slice none 0 0] 30)) = W := ⟨_, rfl⟩
  have P1 : Blk w1 k #[.int .u8 (p).tos, .int .u16 (p).id, .bool (p).keep, .int .u8 (p).ttl, .int .u8 (p).proto, .int .u32 (p).src, .int .u32 (p).dst, .slice A1 n1 c1, .slice (some ⟨b, off, none⟩) n2 c2] 26 := by rw [← hw1]; exact ((blk_new _ _ _ k (by simp [hk])).alloc _)
  have Z1 : Blk w1 (k + 1) #[.int .u16 0, .bool false, .bool false, .int .u32 0, .int .u32 0, .slice none 0 0] 30 := by rw [← hw1]; exact (blk_new _ _ _ (k + 1) (by simp [hk]))
  have R1 : Below w.heap.size w w1 := by rw [← hw1]; (repeat (first | with_reducible exact Below.refl _ _ | with_reducible refine below_drew ?_ | with_reducible refine below_drewN ?_ _ | with_reducible refine below_alloc ?_ (Nat.le_refl _) _ | with_reducible refine Below.setCell ?_ (by first | exact Nat.le_refl _ | (simp only []; omega)) _ | with_reducible assumption))
  have Pc1 := P1.cell
  have Zc1 := Z1.cell
  have Pl1 := P1.lt
  have Zl1 := Z1.lt
  have x1 := (k2).below R1
  have hb1 := hb w1 x1
  clear hb
  go_enter Try.func33, Try.ntmps33
  go_wp2_with (go_at_call 56; go_loud ((with_reducible refine (hb1).mono ?_); rintro e w2 ⟨rfl, rfl⟩))
  clear hb1
  refine region_txt 12 (by kernel_rfl) (by kernel_rfl) ?_; (iterate 12 (first | (apply ObsK.skip (by rfl)) | (apply ObsK.v (by rfl); (intro wo hT; (repeat (first | (intro v hv; (fail)) | (intro _ _ k; try have hcv := cv k))); (have bo := x1.below hT; have c0 := bo.at_ (j := 0) (by omega); rw [Nat.add_zero] at c0; have c1 := bo.at_ (j := 1) (by omega); have hsz : w1.heap.size ≤ wo.heap.size := hT.size); refine Goes.mk ?_; go_simp; first | exact goes_v | exact goes_b (by assumption) | exact goes_new hsz | (refine goes_enter ?_; first | (go_at_call 57; go_loud ((with_reducible refine (rget16_any (some ⟨b, off, none⟩) n2 c2 l 6 wo bo).mono ?_); rintro e w5 ⟨rfl, hD5⟩; exact ret_v hD5.bel))))) | (apply ObsK.b (by rfl); (intro wo hT; (repeat (first | (intro v hv; (fail)) | (intro _ _ k; try have hcv := cv k))); (have bo := x1.below hT; have c0 := bo.at_ (j := 0) (by omega); rw [Nat.add_zero] at c0; have c1 := bo.at_ (j := 1) (by omega); have hsz : w1.heap.size ≤ wo.heap.size := hT.size); refine Goes.mk ?_; go_simp; first | exact goes_v | exact goes_b (by assumption) | exact goes_new hsz | (refine goes_enter ?_; first | (go_at_call 57; go_loud ((with_reducible refine (rget16_any (some ⟨b, off, none⟩) n2 c2 l 6 wo bo).mono ?_); rintro e w5 ⟨rfl, hD5⟩; exact ret_v hD5.bel))))) | (apply ObsK.p (q := isNew w1.heap.size _ _) (by rfl) st_isNew; (intro wo hT; (repeat (first | (intro v hv; (fail)) | (intro _ _ k; try have hcv := cv k))); (have bo := x1.below hT; have c0 := bo.at_ (j := 0) (by omega); rw [Nat.add_zero] at c0; have c1 := bo.at_ (j := 1) (by omega); have hsz : w1.heap.size ≤ wo.heap.size := hT.size); refine Goes.mk ?_; go_simp; first | exact goes_v | exact goes_b (by assumption) | exact goes_new hsz | (refine goes_enter ?_; first | (go_at_call 57; go_loud ((with_reducible refine (rget16_any (some ⟨b, off, none⟩) n2 c2 l 6 wo bo).mono ?_); rintro e w5 ⟨rfl, hD5⟩; exact ret_v hD5.bel))))))); refine ObsK.nil ?_; intro wz hBz; simp only [finOn, List.drop_succ_cons, List.drop_zero, List.drop_nil]
  rintro vp ⟨gf, rfl, gfB, G⟩
  go_simp
  obtain ⟨w4, hw4, S4⟩ := store6 G (.int .u16 (get16 l 6)) (.bool s) (.bool a) (.int .u32 0) (.int .u32 0) (.slice none 0 0)
  have gc0 := G.cell
  have kk : w.heap.size ≤ w1.heap.size := R1.size
  have F4 := S4.blk
  have fc4 := F4.cell
  have Z4 := S4.other (by omega) (Z1.below hBz)
  have T4 := S4.bel (below_then R1 hBz) (by omega)
  have x4 := k2.below T4
  have hgf : w.heap.size ≤ gf := by omega
  have hgz : k + 1 ≠ gf := by omega
  clear hs ha
  cases s <;> cases a
  · simp only [if_true, if_false, Bool.false_eq_true, Nat.add_zero, Nat.reduceAdd] at hHd
    subst hHd
    have HRD : Hid (rdF l = ⟨get16 l 6, false, false, 0, 0, l.drop 8⟩) := HRd.out
    clear HRd
    have HE3' : Hid ((n2 : Int) < 8 + nn → geF p = zF ∧ geE p = 3) := HE3.out
    have HE4' : Hid (8 + nn < (n2 : Int) → geF p = zF ∧ geE p = 4) := HE4.out
    have HE0' : Hid (8 + nn = (n2 : Int) → geF p = rdF l ∧ geE p = 0) := HE0.out
    clear HE3 HE4 HE0
    by_cases t1 : (n2 : Int) < 8 + nn
    · go_wp2_with (go_at_call 57; go_loud ((with_reducible refine (rget16_any (some ⟨b, off, none⟩) n2 c2 l 4 w4 x4).mono ?_); rintro e w6 ⟨he6, hD6⟩; (rw [HNN.out] at he6); subst he6; have F6 := F4.below hD6.bel; have Z6 := Z4.below hD6.bel; have T6 := below_then T4 hD6.bel; have fc6 := F6.cell; have zc6 := Z6.cell; have fl6 := F6.lt; have zl6 := Z6.lt; have x6 := k2.below T6))
      obtain ⟨eF, eE⟩ := HE3'.out t1
      obtain ⟨wf, hwf, Sf⟩ := store6 Z6 (.int .u16 0) (.bool false) (.bool false) (.int .u32 0) (.int .u32 0) (.slice none 0 0)
      rw [hwf, eF, eE]
      have pf := Sf.blk.cell
      exact bodyPost_ret (by simp [results, Try.results33, go_sem, pf]) rfl (frPost_no (Sf.bel T6 (by omega)))
    · by_cases t2 : 8 + nn < (n2 : Int)
      · go_wp2_with (go_at_call 57; go_loud ((with_reducible refine (rget16_any (some ⟨b, off, none⟩) n2 c2 l 4 w4 x4).mono ?_); rintro e w6 ⟨he6, hD6⟩; (rw [HNN.out] at he6); subst he6; have F6 := F4.below hD6.bel; have Z6 := Z4.below hD6.bel; have T6 := below_then T4 hD6.bel; have fc6 := F6.cell; have zc6 := Z6.cell; have fl6 := F6.lt; have zl6 := Z6.lt; have x6 := k2.below T6))
        obtain ⟨eF, eE⟩ := HE4'.out t2
        obtain ⟨wf, hwf, Sf⟩ := store6 Z6 (.int .u16 0) (.bool false) (.bool false) (.int .u32 0) (.int .u32 0) (.slice none 0 0)
        rw [hwf, eF, eE]
        have pf := Sf.blk.cell
        exact bodyPost_ret (by simp [results, Try.results33, go_sem, pf]) rfl (frPost_no (Sf.bel T6 (by omega)))
      · have hcut : ∀ W, (Instr.slice 24 (.slice (some ⟨b, off, none⟩) n2 c2) (some (.int .i64 8)) none none).run Try.prog W = _ := fun W => cut_l Try.underlying24 hi8 hs8 (some ⟨b, off, none⟩) n2 c2 .i64 8 (by omega) (by omega) W
        obtain ⟨A', n', c', eA, en, ec, hbD⟩ := k2.cutE (lo := 8) (hi := n2) (by omega) (Nat.le_refl _)
        simp only [show (8 : Int).toNat = 8 from rfl, eA, en, ec] at hcut
        rw [hlL] at hbD
        have hn' : n' ≤ n2 := by omega
        clear eA en ec
        go_wp2_with (first
          | (go_at_call 57; go_loud ((with_reducible refine (rget16_any (some ⟨b, off, none⟩) n2 c2 l 4 w4 x4).mono ?_); rintro e w6 ⟨he6, hD6⟩; (rw [HNN.out] at he6); subst he6; have F6 := F4.below hD6.bel; have Z6 := Z4.below hD6.bel; have T6 := below_then T4 hD6.bel; have fc6 := F6.cell; have zc6 := Z6.cell; have fl6 := F6.lt; have zl6 := Z6.lt; have x6 := k2.below T6)))
        refine region_txt 5 (by kernel_rfl) (by kernel_rfl) ?_; (iterate 5 (first | (apply ObsK.skip (by rfl)) | (apply ObsK.v (by rfl); (intro wo hT; (repeat (first | (intro _ _ k; try have hcv := cv k))); (have gc := (F6.below hT).cell); refine Goes.mk ?_; go_simp; first | exact goes_v | exact goes_b (by assumption) | (refine goes_enter ?_; first | fail))) | (apply ObsK.b (by rfl); (intro wo hT; (repeat (first | (intro _ _ k; try have hcv := cv k))); (have gc := (F6.below hT).cell); refine Goes.mk ?_; go_simp; first | exact goes_v | exact goes_b (by assumption) | (refine goes_enter ?_; first | fail))))); refine ObsK.nil ?_; intro wz hBz; simp only [finOn, List.drop_succ_cons, List.drop_zero, List.drop_nil]
        go_simp
        have F20 := F6.below hBz
        have Z20 := Z6.below hBz
        have T20 := below_then T6 hBz
        have D20 := hbD.below T20
        have gl := F20.lt
        have gs := hBz.size
        have z20l := Z20.lt
        go_wp2_with (first
          | (at_builtin; go_loud (refine wpList_append_bs (w0 := wz) _ rfl _ _ _ rfl wz.heap.size 5 Try.underlying24 info_u8 none 0 0 [] rfl (own_nil _ _ _) A' n' c' _ rfl D20 (Below.refl _ _) (by omega) (by first | exact Nat.le_refl _ | exact Below.size (Below.refl _ _) | omega | (simp <;> omega)) ?_); intro A7 n7 c7 w27 ho7 hB7 _ hz7; have u7 : n7 = n' := (by have := ho7.len; have := D20.len; simp at *; omega); subst u7; replace ho7 : Own w27 wz.heap.size 5 A7 n7 c7 (l.drop 8) := ho7; have F27 := F20.below hB7; have gc7 := F27.cell; (obtain ⟨w28, hw28, S28⟩ := store1 F27 5 (.slice A7 n7 c7)); simp only [List.setIfInBounds_toArray, List.set_cons_zero, List.set_cons_succ] at S28; have gc8 := S28.blk.cell; have Z28 := S28.other hgz (Z20.below hB7); have zc8 := Z28.cell; have T28 := S28.bel (below_then T20 hB7) hgf; have O28 := S28.own ho7 (fun a e => by have := ho7.ge a e; omega)))
        obtain ⟨eF, eE⟩ := HE0'.out (by omega)
        rw [HRD.out] at eF
        obtain ⟨wf, hwf, Sf⟩ := store6 Z28 (.int .u16 (get16 l 6)) (.bool false) (.bool false) (.int .u32 (0)) (.int .u32 (0)) (.slice A7 n7 c7)
        rw [hwf, eF, eE]
        have pf := Sf.blk.cell
        have Of := Sf.own O28 (fun a e => by have := ho7.ge a e; omega)
        have s5 := T20.size
        exact bodyPost_ret (v := .tuple #[.agg #[.int .u16 (get16 l 6), .bool false, .bool false, .int .u32 (0), .int .u32 (0), .slice A7 n7 c7], .int .i64 0]) (by simp [results, Try.results33, go_sem, pf]) rfl ⟨A7, n7, c7, rfl, Of.mono s5, Sf.bel T28 (by omega)⟩
  · simp only [if_true, if_false, Bool.false_eq_true, Nat.add_zero, Nat.reduceAdd] at hHd
    subst hHd
    have HRD : Hid (rdF l = ⟨get16 l 6, false, true, 0, get32 l 8, l.drop 12⟩) := HRd.out
    clear HRd
    have HE3' : Hid ((n2 : Int) < 12 + nn → geF p = zF ∧ geE p = 3) := HE3.out
    have HE4' : Hid (12 + nn < (n2 : Int) → geF p = zF ∧ geE p = 4) := HE4.out
    have HE0' : Hid (12 + nn = (n2 : Int) → geF p = rdF l ∧ geE p = 0) := HE0.out
    clear HE3 HE4 HE0
    by_cases t1 : (n2 : Int) < 12 + nn
    · go_wp2_with (go_at_call 57; go_loud ((with_reducible refine (rget16_any (some ⟨b, off, none⟩) n2 c2 l 4 w4 x4).mono ?_); rintro e w6 ⟨he6, hD6⟩; (rw [HNN.out] at he6); subst he6; have F6 := F4.below hD6.bel; have Z6 := Z4.below hD6.bel; have T6 := below_then T4 hD6.bel; have fc6 := F6.cell; have zc6 := Z6.cell; have fl6 := F6.lt; have zl6 := Z6.lt; have x6 := k2.below T6))
      obtain ⟨eF, eE⟩ := HE3'.out t1
      obtain ⟨wf, hwf, Sf⟩ := store6 Z6 (.int .u16 0) (.bool false) (.bool false) (.int .u32 0) (.int .u32 0) (.slice none 0 0)
      rw [hwf, eF, eE]
      have pf := Sf.blk.cell
      exact bodyPost_ret (by simp [results, Try.results33, go_sem, pf]) rfl (frPost_no (Sf.bel T6 (by omega)))
    · by_cases t2 : 12 + nn < (n2 : Int)
      · go_wp2_with (go_at_call 57; go_loud ((with_reducible refine (rget16_any (some ⟨b, off, none⟩) n2 c2 l 4 w4 x4).mono ?_); rintro e w6 ⟨he6, hD6⟩; (rw [HNN.out] at he6); subst he6; have F6 := F4.below hD6.bel; have Z6 := Z4.below hD6.bel; have T6 := below_then T4 hD6.bel; have fc6 := F6.cell; have zc6 := Z6.cell; have fl6 := F6.lt; have zl6 := Z6.lt; have x6 := k2.below T6))
        obtain ⟨eF, eE⟩ := HE4'.out t2
        obtain ⟨wf, hwf, Sf⟩ := store6 Z6 (.int .u16 0) (.bool false) (.bool false) (.int .u32 0) (.int .u32 0) (.slice none 0 0)
        rw [hwf, eF, eE]
        have pf := Sf.blk.cell
        exact bodyPost_ret (by simp [results, Try.results33, go_sem, pf]) rfl (frPost_no (Sf.bel T6 (by omega)))
      · have hcut : ∀ W, (Instr.slice 24 (.slice (some ⟨b, off, none⟩) n2 c2) (some (.int .i64 12)) none none).run Try.prog W = _ := fun W => cut_l Try.underlying24 hi8 hs8 (some ⟨b, off, none⟩) n2 c2 .i64 12 (by omega) (by omega) W
        obtain ⟨A', n', c', eA, en, ec, hbD⟩ := k2.cutE (lo := 12) (hi := n2) (by omega) (Nat.le_refl _)
        simp only [show (12 : Int).toNat = 12 from rfl, eA, en, ec] at hcut
        rw [hlL] at hbD
        have hn' : n' ≤ n2 := by omega
        clear eA en ec
        go_wp2_with (first
          | (go_at_call 57; go_loud ((with_reducible refine (rget16_any (some ⟨b, off, none⟩) n2 c2 l 4 w4 x4).mono ?_); rintro e w6 ⟨he6, hD6⟩; (rw [HNN.out] at he6); subst he6; have F6 := F4.below hD6.bel; have Z6 := Z4.below hD6.bel; have T6 := below_then T4 hD6.bel; have fc6 := F6.cell; have zc6 := Z6.cell; have fl6 := F6.lt; have zl6 := Z6.lt; have x6 := k2.below T6))
          | (go_at_call 53; go_loud ((with_reducible refine (rget32_any (some ⟨b, off, none⟩) n2 c2 l 8 w6 x6).mono ?_); rintro e w7 ⟨rfl, hD7⟩; have F7 := F6.below hD7.bel; have fc7 := F7.cell; (obtain ⟨w8, hw8, S8⟩ := store1 F7 4 (.int .u32 (get32 l 8))); simp only [List.setIfInBounds_toArray, List.set_cons_zero, List.set_cons_succ] at S8; have F8 := S8.blk; have Z8 := S8.other hgz (Z6.below hD7.bel); have T8 := S8.bel (below_then T6 hD7.bel) hgf; have fc8 := F8.cell; have x8 := k2.below T8; have zl8 := Z8.lt)))
        refine region_txt 5 (by kernel_rfl) (by kernel_rfl) ?_; (iterate 5 (first | (apply ObsK.skip (by rfl)) | (apply ObsK.v (by rfl); (intro wo hT; (repeat (first | (intro _ _ k; try have hcv := cv k))); (have gc := (F8.below hT).cell); refine Goes.mk ?_; go_simp; first | exact goes_v | exact goes_b (by assumption) | (refine goes_enter ?_; first | fail))) | (apply ObsK.b (by rfl); (intro wo hT; (repeat (first | (intro _ _ k; try have hcv := cv k))); (have gc := (F8.below hT).cell); refine Goes.mk ?_; go_simp; first | exact goes_v | exact goes_b (by assumption) | (refine goes_enter ?_; first | fail))))); refine ObsK.nil ?_; intro wz hBz; simp only [finOn, List.drop_succ_cons, List.drop_zero, List.drop_nil]
        go_simp
        have F20 := F8.below hBz
        have Z20 := Z8.below hBz
        have T20 := below_then T8 hBz
        have D20 := hbD.below T20
        have gl := F20.lt
        have gs := hBz.size
        have z20l := Z20.lt
        go_wp2_with (first
          | (at_builtin; go_loud (refine wpList_append_bs (w0 := wz) _ rfl _ _ _ rfl wz.heap.size 5 Try.underlying24 info_u8 none 0 0 [] rfl (own_nil _ _ _) A' n' c' _ rfl D20 (Below.refl _ _) (by omega) (by first | exact Nat.le_refl _ | exact Below.size (Below.refl _ _) | omega | (simp <;> omega)) ?_); intro A7 n7 c7 w27 ho7 hB7 _ hz7; have u7 : n7 = n' := (by have := ho7.len; have := D20.len; simp at *; omega); subst u7; replace ho7 : Own w27 wz.heap.size 5 A7 n7 c7 (l.drop 12) := ho7; have F27 := F20.below hB7; have gc7 := F27.cell; (obtain ⟨w28, hw28, S28⟩ := store1 F27 5 (.slice A7 n7 c7)); simp only [List.setIfInBounds_toArray, List.set_cons_zero, List.set_cons_succ] at S28; have gc8 := S28.blk.cell; have Z28 := S28.other hgz (Z20.below hB7); have zc8 := Z28.cell; have T28 := S28.bel (below_then T20 hB7) hgf; have O28 := S28.own ho7 (fun a e => by have := ho7.ge a e; omega)))
        obtain ⟨eF, eE⟩ := HE0'.out (by omega)
        rw [HRD.out] at eF
        obtain ⟨wf, hwf, Sf⟩ := store6 Z28 (.int .u16 (get16 l 6)) (.bool false) (.bool true) (.int .u32 (0)) (.int .u32 (get32 l 8)) (.slice A7 n7 c7)
        rw [hwf, eF, eE]
        have pf := Sf.blk.cell
        have Of := Sf.own O28 (fun a e => by have := ho7.ge a e; omega)
        have s5 := T20.size
        exact bodyPost_ret (v := .tuple #[.agg #[.int .u16 (get16 l 6), .bool false, .bool true, .int .u32 (0), .int .u32 (get32 l 8), .slice A7 n7 c7], .int .i64 0]) (by simp [results, Try.results33, go_sem, pf]) rfl ⟨A7, n7, c7, rfl, Of.mono s5, Sf.bel T28 (by omega)⟩
  · simp only [if_true, if_false, Bool.false_eq_true, Nat.add_zero, Nat.reduceAdd] at hHd
    subst hHd
    have HRD : Hid (rdF l = ⟨get16 l 6, true, false, get32 l 8, 0, l.drop 12⟩) := HRd.out
    clear HRd
    have HE3' : Hid ((n2 : Int) < 12 + nn → geF p = zF ∧ geE p = 3) := HE3.out
    have HE4' : Hid (12 + nn < (n2 : Int) → geF p = zF ∧ geE p = 4) := HE4.out
    have HE0' : Hid (12 + nn = (n2 : Int) → geF p = rdF l ∧ geE p = 0) := HE0.out
    clear HE3 HE4 HE0
    by_cases t1 : (n2 : Int) < 12 + nn
    · go_wp2_with (go_at_call 57; go_loud ((with_reducible refine (rget16_any (some ⟨b, off, none⟩) n2 c2 l 4 w4 x4).mono ?_); rintro e w6 ⟨he6, hD6⟩; (rw [HNN.out] at he6); subst he6; have F6 := F4.below hD6.bel; have Z6 := Z4.below hD6.bel; have T6 := below_then T4 hD6.bel; have fc6 := F6.cell; have zc6 := Z6.cell; have fl6 := F6.lt; have zl6 := Z6.lt; have x6 := k2.below T6))
      obtain ⟨eF, eE⟩ := HE3'.out t1
      obtain ⟨wf, hwf, Sf⟩ := store6 Z6 (.int .u16 0) (.bool false) (.bool false) (.int .u32 0) (.int .u32 0) (.slice none 0 0)
      rw [hwf, eF, eE]
      have pf := Sf.blk.cell
      exact bodyPost_ret (by simp [results, Try.results33, go_sem, pf]) rfl (frPost_no (Sf.bel T6 (by omega)))
    · by_cases t2 : 12 + nn < (n2 : Int)
      · go_wp2_with (go_at_call 57; go_loud ((with_reducible refine (rget16_any (some ⟨b, off, none⟩) n2 c2 l 4 w4 x4).mono ?_); rintro e w6 ⟨he6, hD6⟩; (rw [HNN.out] at he6); subst he6; have F6 := F4.below hD6.bel; have Z6 := Z4.below hD6.bel; have T6 := below_then T4 hD6.bel; have fc6 := F6.cell; have zc6 := Z6.cell; have fl6 := F6.lt; have zl6 := Z6.lt; have x6 := k2.below T6))
        obtain ⟨eF, eE⟩ := HE4'.out t2
        obtain ⟨wf, hwf, Sf⟩ := store6 Z6 (.int .u16 0) (.bool false) (.bool false) (.int .u32 0) (.int .u32 0) (.slice none 0 0)
        rw [hwf, eF, eE]
        have pf := Sf.blk.cell
        exact bodyPost_ret (by simp [results, Try.results33, go_sem, pf]) rfl (frPost_no (Sf.bel T6 (by omega)))
      · have hcut : ∀ W, (Instr.slice 24 (.slice (some ⟨b, off, none⟩) n2 c2) (some (.int .i64 12)) none none).run Try.prog W = _ := fun W => cut_l Try.underlying24 hi8 hs8 (some ⟨b, off, none⟩) n2 c2 .i64 12 (by omega) (by omega) W
        obtain ⟨A', n', c', eA, en, ec, hbD⟩ := k2.cutE (lo := 12) (hi := n2) (by omega) (Nat.le_refl _)
        simp only [show (12 : Int).toNat = 12 from rfl, eA, en, ec] at hcut
        rw [hlL] at hbD
        have hn' : n' ≤ n2 := by omega
        clear eA en ec
        go_wp2_with (first
          | (go_at_call 57; go_loud ((with_reducible refine (rget16_any (some ⟨b, off, none⟩) n2 c2 l 4 w4 x4).mono ?_); rintro e w6 ⟨he6, hD6⟩; (rw [HNN.out] at he6); subst he6; have F6 := F4.below hD6.bel; have Z6 := Z4.below hD6.bel; have T6 := below_then T4 hD6.bel; have fc6 := F6.cell; have zc6 := Z6.cell; have fl6 := F6.lt; have zl6 := Z6.lt; have x6 := k2.below T6))
          | (go_at_call 53; go_loud ((with_reducible refine (rget32_any (some ⟨b, off, none⟩) n2 c2 l 8 w6 x6).mono ?_); rintro e w7 ⟨rfl, hD7⟩; have F7 := F6.below hD7.bel; have fc7 := F7.cell; (obtain ⟨w8, hw8, S8⟩ := store1 F7 3 (.int .u32 (get32 l 8))); simp only [List.setIfInBounds_toArray, List.set_cons_zero, List.set_cons_succ] at S8; have F8 := S8.blk; have Z8 := S8.other hgz (Z6.below hD7.bel); have T8 := S8.bel (below_then T6 hD7.bel) hgf; have fc8 := F8.cell; have x8 := k2.below T8; have zl8 := Z8.lt)))
        refine region_txt 5 (by kernel_rfl) (by kernel_rfl) ?_; (iterate 5 (first | (apply ObsK.skip (by rfl)) | (apply ObsK.v (by rfl); (intro wo hT; (repeat (first | (intro _ _ k; try have hcv := cv k))); (have gc := (F8.below hT).cell); refine Goes.mk ?_; go_simp; first | exact goes_v | exact goes_b (by assumption) | (refine goes_enter ?_; first | fail))) | (apply ObsK.b (by rfl); (intro wo hT; (repeat (first | (intro _ _ k; try have hcv := cv k))); (have gc := (F8.below hT).cell); refine Goes.mk ?_; go_simp; first | exact goes_v | exact goes_b (by assumption) | (refine goes_enter ?_; first | fail))))); refine ObsK.nil ?_; intro wz hBz; simp only [finOn, List.drop_succ_cons, List.drop_zero, List.drop_nil]
        go_simp
        have F20 := F8.below hBz
        have Z20 := Z8.below hBz
        have T20 := below_then T8 hBz
        have D20 := hbD.below T20
        have gl := F20.lt
        have gs := hBz.size
        have z20l := Z20.lt
        go_wp2_with (first
          | (at_builtin; go_loud (refine wpList_append_bs (w0 := wz) _ rfl _ _ _ rfl wz.heap.size 5 Try.underlying24 info_u8 none 0 0 [] rfl (own_nil _ _ _) A' n' c' _ rfl D20 (Below.refl _ _) (by omega) (by first | exact Nat.le_refl _ | exact Below.size (Below.refl _ _) | omega | (simp <;> omega)) ?_); intro A7 n7 c7 w27 ho7 hB7 _ hz7; have u7 : n7 = n' := (by have := ho7.len; have := D20.len; simp at *; omega); subst u7; replace ho7 : Own w27 wz.heap.size 5 A7 n7 c7 (l.drop 12) := ho7; have F27 := F20.below hB7; have gc7 := F27.cell; (obtain ⟨w28, hw28, S28⟩ := store1 F27 5 (.slice A7 n7 c7)); simp only [List.setIfInBounds_toArray, List.set_cons_zero, List.set_cons_succ] at S28; have gc8 := S28.blk.cell; have Z28 := S28.other hgz (Z20.below hB7); have zc8 := Z28.cell; have T28 := S28.bel (below_then T20 hB7) hgf; have O28 := S28.own ho7 (fun a e => by have := ho7.ge a e; omega)))
        obtain ⟨eF, eE⟩ := HE0'.out (by omega)
        rw [HRD.out] at eF
        obtain ⟨wf, hwf, Sf⟩ := store6 Z28 (.int .u16 (get16 l 6)) (.bool true) (.bool false) (.int .u32 (get32 l 8)) (.int .u32 (0)) (.slice A7 n7 c7)
        rw [hwf, eF, eE]
        have pf := Sf.blk.cell
        have Of := Sf.own O28 (fun a e => by have := ho7.ge a e; omega)
        have s5 := T20.size
        exact bodyPost_ret (v := .tuple #[.agg #[.int .u16 (get16 l 6), .bool true, .bool false, .int .u32 (get32 l 8), .int .u32 (0), .slice A7 n7 c7], .int .i64 0]) (by simp [results, Try.results33, go_sem, pf]) rfl ⟨A7, n7, c7, rfl, Of.mono s5, Sf.bel T28 (by omega)⟩
  · simp only [if_true, if_false, Bool.false_eq_true, Nat.add_zero, Nat.reduceAdd] at hHd
    subst hHd
    have HRD : Hid (rdF l = ⟨get16 l 6, true, true, get32 l 8, get32 l 12, l.drop 16⟩) := HRd.out
    clear HRd
    have HE3' : Hid ((n2 : Int) < 16 + nn → geF p = zF ∧ geE p = 3) := HE3.out
    have HE4' : Hid (16 + nn < (n2 : Int) → geF p = zF ∧ geE p = 4) := HE4.out
    have HE0' : Hid (16 + nn = (n2 : Int) → geF p = rdF l ∧ geE p = 0) := HE0.out
    clear HE3 HE4 HE0
    by_cases t1 : (n2 : Int) < 16 + nn
    · go_wp2_with (go_at_call 57; go_loud ((with_reducible refine (rget16_any (some ⟨b, off, none⟩) n2 c2 l 4 w4 x4).mono ?_); rintro e w6 ⟨he6, hD6⟩; (rw [HNN.out] at he6); subst he6; have F6 := F4.below hD6.bel; have Z6 := Z4.below hD6.bel; have T6 := below_then T4 hD6.bel; have fc6 := F6.cell; have zc6 := Z6.cell; have fl6 := F6.lt; have zl6 := Z6.lt; have x6 := k2.below T6))
      obtain ⟨eF, eE⟩ := HE3'.out t1
      obtain ⟨wf, hwf, Sf⟩ := store6 Z6 (.int .u16 0) (.bool false) (.bool false) (.int .u32 0) (.int .u32 0) (.slice none 0 0)
      rw [hwf, eF, eE]
      have pf := Sf.blk.cell
      exact bodyPost_ret (by simp [results, Try.results33, go_sem, pf]) rfl (frPost_no (Sf.bel T6 (by omega)))
    · by_cases t2 : 16 + nn < (n2 : Int)
      · go_wp2_with (go_at_call 57; go_loud ((with_reducible refine (rget16_any (some ⟨b, off, none⟩) n2 c2 l 4 w4 x4).mono ?_); rintro e w6 ⟨he6, hD6⟩; (rw [HNN.out] at he6); subst he6; have F6 := F4.below hD6.bel; have Z6 := Z4.below hD6.bel; have T6 := below_then T4 hD6.bel; have fc6 := F6.cell; have zc6 := Z6.cell; have fl6 := F6.lt; have zl6 := Z6.lt; have x6 := k2.below T6))
        obtain ⟨eF, eE⟩ := HE4'.out t2
        obtain ⟨wf, hwf, Sf⟩ := store6 Z6 (.int .u16 0) (.bool false) (.bool false) (.int .u32 0) (.int .u32 0) (.slice none 0 0)
        rw [hwf, eF, eE]
        have pf := Sf.blk.cell
        exact bodyPost_ret (by simp [results, Try.results33, go_sem, pf]) rfl (frPost_no (Sf.bel T6 (by omega)))
      · have hcut : ∀ W, (Instr.slice 24 (.slice (some ⟨b, off, none⟩) n2 c2) (some (.int .i64 16)) none none).run Try.prog W = _ := fun W => cut_l Try.underlying24 hi8 hs8 (some ⟨b, off, none⟩) n2 c2 .i64 16 (by omega) (by omega) W
        obtain ⟨A', n', c', eA, en, ec, hbD⟩ := k2.cutE (lo := 16) (hi := n2) (by omega) (Nat.le_refl _)
        simp only [show (16 : Int).toNat = 16 from rfl, eA, en, ec] at hcut
        rw [hlL] at hbD
        have hn' : n' ≤ n2 := by omega
        clear eA en ec
        go_wp2_with (first
          | (go_at_call 57; go_loud ((with_reducible refine (rget16_any (some ⟨b, off, none⟩) n2 c2 l 4 w4 x4).mono ?_); rintro e w6 ⟨he6, hD6⟩; (rw [HNN.out] at he6); subst he6; have F6 := F4.below hD6.bel; have Z6 := Z4.below hD6.bel; have T6 := below_then T4 hD6.bel; have fc6 := F6.cell; have zc6 := Z6.cell; have fl6 := F6.lt; have zl6 := Z6.lt; have x6 := k2.below T6))
          | (go_at_call 53; go_loud ((with_reducible refine (rget32_any (some ⟨b, off, none⟩) n2 c2 l 8 w6 x6).mono ?_); rintro e w7 ⟨rfl, hD7⟩; have F7 := F6.below hD7.bel; have fc7 := F7.cell; (obtain ⟨w8, hw8, S8⟩ := store1 F7 3 (.int .u32 (get32 l 8))); simp only [List.setIfInBounds_toArray, List.set_cons_zero, List.set_cons_succ] at S8; have F8 := S8.blk; have Z8 := S8.other hgz (Z6.below hD7.bel); have T8 := S8.bel (below_then T6 hD7.bel) hgf; have fc8 := F8.cell; have x8 := k2.below T8; have zl8 := Z8.lt))
          | (go_at_call 53; go_loud ((with_reducible refine (rget32_any (some ⟨b, off, none⟩) n2 c2 l 12 w8 x8).mono ?_); rintro e w9 ⟨rfl, hD9⟩; have F9 := F8.below hD9.bel; have fc9 := F9.cell; (obtain ⟨w10, hw10, S10⟩ := store1 F9 4 (.int .u32 (get32 l 12))); simp only [List.setIfInBounds_toArray, List.set_cons_zero, List.set_cons_succ] at S10; have F10 := S10.blk; have Z10 := S10.other hgz (Z8.below hD9.bel); have T10 := S10.bel (below_then T8 hD9.bel) hgf; have fc10 := F10.cell; have x10 := k2.below T10; have zl10 := Z10.lt)))
        refine region_txt 5 (by kernel_rfl) (by kernel_rfl) ?_; (iterate 5 (first | (apply ObsK.skip (by rfl)) | (apply ObsK.v (by rfl); (intro wo hT; (repeat (first | (intro _ _ k; try have hcv := cv k))); (have gc := (F10.below hT).cell); refine Goes.mk ?_; go_simp; first | exact goes_v | exact goes_b (by assumption) | (refine goes_enter ?_; first | fail))) | (apply ObsK.b (by rfl); (intro wo hT; (repeat (first | (intro _ _ k; try have hcv := cv k))); (have gc := (F10.below hT).cell); refine Goes.mk ?_; go_simp; first | exact goes_v | exact goes_b (by assumption) | (refine goes_enter ?_; first | fail))))); refine ObsK.nil ?_; intro wz hBz; simp only [finOn, List.drop_succ_cons, List.drop_zero, List.drop_nil]
        go_simp
        have F20 := F10.below hBz
        have Z20 := Z10.below hBz
        have T20 := below_then T10 hBz
        have D20 := hbD.below T20
        have gl := F20.lt
        have gs := hBz.size
        have z20l := Z20.lt
        go_wp2_with (first
          | (at_builtin; go_loud (refine wpList_append_bs (w0 := wz) _ rfl _ _ _ rfl wz.heap.size 5 Try.underlying24 info_u8 none 0 0 [] rfl (own_nil _ _ _) A' n' c' _ rfl D20 (Below.refl _ _) (by omega) (by first | exact Nat.le_refl _ | exact Below.size (Below.refl _ _) | omega | (simp <;> omega)) ?_); intro A7 n7 c7 w27 ho7 hB7 _ hz7; have u7 : n7 = n' := (by have := ho7.len; have := D20.len; simp at *; omega); subst u7; replace ho7 : Own w27 wz.heap.size 5 A7 n7 c7 (l.drop 16) := ho7; have F27 := F20.below hB7; have gc7 := F27.cell; (obtain ⟨w28, hw28, S28⟩ := store1 F27 5 (.slice A7 n7 c7)); simp only [List.setIfInBounds_toArray, List.set_cons_zero, List.set_cons_succ] at S28; have gc8 := S28.blk.cell; have Z28 := S28.other hgz (Z20.below hB7); have zc8 := Z28.cell; have T28 := S28.bel (below_then T20 hB7) hgf; have O28 := S28.own ho7 (fun a e => by have := ho7.ge a e; omega)))
        obtain ⟨eF, eE⟩ := HE0'.out (by omega)
        rw [HRD.out] at eF
        obtain ⟨wf, hwf, Sf⟩ := store6 Z28 (.int .u16 (get16 l 6)) (.bool true) (.bool true) (.int .u32 (get32 l 8)) (.int .u32 (get32 l 12)) (.slice A7 n7 c7)
        rw [hwf, eF, eE]
        have pf := Sf.blk.cell
        have Of := Sf.own O28 (fun a e => by have := ho7.ge a e; omega)
        have s5 := T20.size
        exact bodyPost_ret (v := .tuple #[.agg #[.int .u16 (get16 l 6), .bool true, .bool true, .int .u32 (get32 l 8), .int .u32 (get32 l 12), .slice A7 n7 c7], .int .i64 0]) (by simp [results, Try.results33, go_sem, pf]) rfl ⟨A7, n7, c7, rfl, Of.mono s5, Sf.bel T28 (by omega)⟩
theorem rgre_any (p : Pkt) (A1 : Option Addr) (n1 c1 : Nat) (A2 : Option Addr) (n2 c2 : Nat) (w : World) (k2 : Bs w A2 n2 c2 p.dat) :
    Calls Try.prog 33 #[(.agg #[.int .u8 (p).tos, .int .u16 (p).id, .bool (p).keep, .int .u8 (p).ttl, .int .u8 (p).proto, .int .u32 (p).src, .int .u32 (p).dst, .slice A1 n1 c1, .slice A2 n2 c2])] w (FrPost w (geF p) (geE p)) := by
  have l2 := k2.len
  by_cases h1 : p.proto = 47
  · have h1' : (p.proto != 47) = false := by simp [h1]
    by_cases h2 : 8 ≤ (n2 : Int)
    · cases hq : begB p.dat with
      | true => exact rgre_yes p A1 n1 c1 A2 n2 c2 w k2 h1' h2 hq
      | false =>
        have e : geE p = 4 := by unfold geE; rw [if_neg (by simp [h1]), l2, if_neg (by omega), if_pos hq]
        rw [show geF p = zF from by unfold geF; rw [e, if_neg (by decide)], e]
        exact rgre_no p A1 n1 c1 A2 n2 c2 w k2 4 (.inr (.inr ⟨rfl, h1', h2, hq⟩))
    · have e : geE p = 3 := by unfold geE; rw [if_neg (by simp [h1]), l2, if_pos (by omega)]
      rw [show geF p = zF from by unfold geF; rw [e, if_neg (by decide)], e]
      exact rgre_no p A1 n1 c1 A2 n2 c2 w k2 3 (.inr (.inl ⟨rfl, h1', by omega⟩))
  · have e : geE p = 12 := by unfold geE; rw [if_pos h1]
    rw [show geF p = zF from by unfold geF; rw [e, if_neg (by decide)], e]
    exact rgre_no p A1 n1 c1 A2 n2 c2 w k2 12 (.inl ⟨rfl, by simpa using h1⟩)
end Go.Proofs.Ytogbncpchmnbdaa

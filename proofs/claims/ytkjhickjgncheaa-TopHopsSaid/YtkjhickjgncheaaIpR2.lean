import Derived.Test.YtkjhickjgncheaaIpR1
namespace Go.Proofs.Ytkjhickjgncheaa
open Go.RowKit
set_option linter.unusedVariables false
set_option linter.unusedSimpArgs false
set_option linter.unusedSimpArgs false
set_option maxHeartbeats 8000000
set_option maxRecDepth 100000

/-- A new block of a packet's cells. -/
def isP (B : Nat) : World → Value → Prop := fun W v => ∃ g, v = .pointer (some ⟨g, 0, none⟩) ∧ B ≤ g ∧ Blk W g #[.int .u8 0, .int .u16 0, .bool false, .int .u8 0, .int .u8 0, .int .u32 0, .int .u32 0, .slice none 0 0, .slice none 0 0] 26
theorem st_isP {B : Nat} : ∀ w w' v, isP B w v → Below w.heap.size w w' → isP B w' v := fun _ _ _ ⟨g, e, h, k⟩ hb => ⟨g, e, h, k.below hb⟩
theorem goes_isP {B : Nat} {W : World} (h : B ≤ W.heap.size) : OpGoes Try.prog (fun v w' => (Kd.p (isP B)).holds w' v ∧ Below W.heap.size W w') (.ok (.value (.pointer (some ⟨W.heap.size, 0, none⟩))) (W.alloc (.cells #[.int .u8 0, .int .u16 0, .bool false, .int .u8 0, .int .u8 0, .int .u32 0, .int .u32 0, .slice none 0 0, .slice none 0 0] 26))) :=
  ⟨⟨_, rfl, h, blk_new W _ _ _ rfl⟩, (Below.refl _ W).alloc (Nat.le_refl _) _⟩
theorem rread_ok (A : Option Addr) (n c : Nat) (l : List UInt8) (q : Bool) (w : World) (hb : Bs w A n c l) (hE0 : lenE q l = 0) :
    Calls Try.prog 36 #[.slice A n c, .bool q] w (RdPost w q l) := by
  have hlen := hb.len
  have hmax := hb.max
  have hcap := hb.cap
  obtain ⟨i8, hi8, -, hs8, -⟩ := info_parts info_u8
  obtain ⟨f1, f2, f3, f4, f5, f6, f7, f8, f9⟩ := len_facts hE0
  obtain ⟨b, off, rfl⟩ := hb.some_ (by omega)
  have b0 := bt_lo l 0
  have b0' := bt_hi l 0
  obtain ⟨h, hh⟩ : ∃ h, hdOf l = h := ⟨_, rfl⟩
  have hh' : bt l 0 % 16 * 4 = h := by rw [← hh]; unfold hdOf; omega
  obtain ⟨g, hg⟩ : ∃ g, get16 l 2 = g := ⟨_, rfl⟩
  obtain ⟨m, hm⟩ : ∃ m, alOf l = m := ⟨_, rfl⟩
  have ham : m = if (n : Int) < g then (n : Int) else g := by rw [← hm]; unfold alOf; rw [hg, hlen]
  have g0 : 0 ≤ g := by rw [← hg]; exact get16_lo l 2
  have g1 : g ≤ 65535 := by rw [← hg]; exact get16_hi l 2
  obtain ⟨f, hf⟩ : ∃ f, get16 l 6 = f := ⟨_, rfl⟩
  have e0 : 0 ≤ f := by rw [← hf]; exact get16_lo l 6
  have e1 : f ≤ 65535 := by rw [← hf]; exact get16_hi l 6
  obtain ⟨s, hs⟩ : ∃ s, csum (l.take h.toNat) = s := ⟨_, rfl⟩
  rw [hh] at f3 f4 f5 f7 f8
  rw [hm] at f5 f6
  rw [hg] at f8 f9
  rw [hlen] at f1 f4 f6 f9
  have hb1 := hb.alloc (.cells #[.int .u8 0, .int .u16 0, .bool false, .int .u8 0, .int .u8 0, .int .u32 0, .int .u32 0, .slice none 0 0, .slice none 0 0] 26)
  have c0 := hb1.at_ (j := 0) (by omega)
  rw [Nat.add_zero] at c0
  have hn0 : (0 : Int) < n := by omega
  obtain ⟨x, hx⟩ : ∃ x, bt l 0 / 16 = x := ⟨_, rfl⟩
  have hx4 : (x != 4) = false := by simp; omega
  have HE : Hid (rdE q l = if s ≠ 0 then 5 else if f % 16384 ≠ 0 then 7 else if 32768 ≤ f then 4 else if q = true ∧ m - h < 8 then 3 else 0) := by
    unfold Hid rdE
    rw [if_neg (by omega), hh, hs, hf, hm]
  have hcutA : ∀ W, (Instr.slice 24 (.slice (some ⟨b, off, none⟩) n c) none (some (.int .i64 h)) none).run Try.prog W = .ok (.slice (some ⟨b, off, none⟩) h.toNat c) W := fun W => by
    rw [cut_h Try.underlying24 hi8 hs8 (some ⟨b, off, none⟩) n c .i64 h (by omega) (by omega) W]
    simp [Addr.add]
  have hbA := fun (W : World) (k : Bs W (some ⟨b, off, none⟩) n c l) => k.takeN (k := h.toNat) (by omega)
  have hsd : ∀ (W : World) (d : Nat) (p : Addr) (v : Value), (W.drewN d).setCell p v = (W.setCell p v).drewN d := fun _ _ _ _ => rfl
  have HH := Lib.hid hh
  have HM := Lib.hid hm
  have HF := Lib.hid hf
  have HAM := Lib.hid ham
  have h20 : ¬ (n : Int) < 20 := by omega
  have hgb : 0 ≤ h := by omega
  have HL := Lib.hid hlen
  clear hh hm ham f1 f2 f7 hlen
  by_cases hng : (n : Int) < g
  · have hq : q = true := by
      cases q with
      | true => rfl
      | false => have := f9 rfl; omega
    subst hq
    have hmn : m = n := by rw [HAM.out, if_pos hng]
    subst hmn
    clear f9 f8
    go_enter Try.func36, Try.ntmps36
    go_wp2_with (first
      | (go_at_call 47; ((with_reducible refine (rget16_any (some ⟨b, off, none⟩) n c l 2 _ hb1).mono ?_); rintro e w2 ⟨rfl, ⟨⟨d2, rfl⟩⟩⟩))
      | (go_at_call 48; ((with_reducible refine (rgood_any (some ⟨b, off, none⟩) h.toNat c (l.take h.toNat) (by omega) _ (hbA _ (hb1.drewN _))).mono ?_); rintro e w3 ⟨rfl, hB3⟩); have R3 := ((blk_new w #[.int .u8 0, .int .u16 0, .bool false, .int .u8 0, .int .u8 0, .int .u32 0, .int .u32 0, .slice none 0 0, .slice none 0 0] 26 _ rfl).drewN d2).below hB3; have b3 := (hb1.drewN d2).below hB3; have T3 := below_then (below_drewN ((Below.refl _ w).alloc (Nat.le_refl _) _) d2) hB3; (obtain ⟨wf, hwf, S⟩ := store9 R3 (.int .u8 0) (.int .u16 0) (.bool false) (.int .u8 0) (.int .u8 0) (.int .u32 0) (.int .u32 0) (.slice none 0 0) (.slice none 0 0)); have pf := S.blk.cell; have rc := R3.cell; have TF := S.bel T3 (Nat.le_refl _))
      | (go_at_call 47; ((with_reducible refine (rget16_any (some ⟨b, off, none⟩) n c l 6 _ b3).mono ?_); rintro e w4 ⟨rfl, ⟨⟨d4, rfl⟩⟩⟩)))
    all_goals have H1 := HE.out
    all_goals simp only [Bool.not_eq_true', Bool.not_eq_false', beq_iff_eq, beq_eq_false_iff_ne, bne_iff_ne, ne_eq, bne_eq_false_iff_eq, true_and, false_and, Bool.false_eq_true, if_false] at *
    all_goals first
      | (refine bodyPost_ret (v := .tuple #[.agg #[.int .u8 0, .int .u16 0, .bool false, .int .u8 0, .int .u8 0, .int .u32 0, .int .u32 0, .slice none 0 0, .slice none 0 0], .int .i64 5]) ?_ rfl (rdPost_no 5 (H1.trans ?_) (by omega) ?_); (focus (simp [results, Try.results36, go_sem, pf]; done)); (focus (repeat' split; all_goals first | rfl | omega)); (first | exact TF | exact below_drewN TF _))
      | (refine bodyPost_ret (v := .tuple #[.agg #[.int .u8 0, .int .u16 0, .bool false, .int .u8 0, .int .u8 0, .int .u32 0, .int .u32 0, .slice none 0 0, .slice none 0 0], .int .i64 7]) ?_ rfl (rdPost_no 7 (H1.trans ?_) (by omega) ?_); (focus (simp [results, Try.results36, go_sem, pf]; done)); (focus (repeat' split; all_goals first | rfl | omega)); (first | exact TF | exact below_drewN TF _))
      | (refine bodyPost_ret (v := .tuple #[.agg #[.int .u8 0, .int .u16 0, .bool false, .int .u8 0, .int .u8 0, .int .u32 0, .int .u32 0, .slice none 0 0, .slice none 0 0], .int .i64 4]) ?_ rfl (rdPost_no 4 (H1.trans ?_) (by omega) ?_); (focus (simp [results, Try.results36, go_sem, pf]; done)); (focus (repeat' split; all_goals first | rfl | omega)); (first | exact TF | exact below_drewN TF _))
      | (refine bodyPost_ret (v := .tuple #[.agg #[.int .u8 0, .int .u16 0, .bool false, .int .u8 0, .int .u8 0, .int .u32 0, .int .u32 0, .slice none 0 0, .slice none 0 0], .int .i64 3]) ?_ rfl (rdPost_no 3 (H1.trans ?_) (by omega) ?_); (focus (simp [results, Try.results36, go_sem, pf]; done)); (focus (repeat' split; all_goals first | rfl | omega)); (first | exact TF | exact below_drewN TF _))
      | skip
    have hE : rdE true l = 0 := by
      rw [H1]
      repeat' split
      all_goals first | rfl | omega
    have HE0 := Lib.hid hE
    have b4 := b3.drewN d4
    have R4 := R3.drewN d4
    have T4 := below_drewN T3 d4
    have hrl := R4.lt
    have hcutB : ∀ W, (Instr.slice 24 (.slice (some ⟨b, off, none⟩) n c) (some (.int .i64 20)) (some (.int .i64 h)) none).run Try.prog W = _ := fun W => cut_lh Try.underlying24 hi8 hs8 (some ⟨b, off, none⟩) n c .i64 .i64 20 h (by omega) (by omega) (by omega) W
    obtain ⟨A2, n2, c2, eA, en, ec, hbB⟩ := hb.cutE (lo := 20) (hi := h.toNat) (by omega) (by omega)
    simp only [show (20 : Int).toNat = 20 from rfl, eA, en, ec] at hcutB
    clear eA en ec
    have hcutC : ∀ W, (Instr.slice 24 (.slice (some ⟨b, off, none⟩) n c) (some (.int .i64 h)) (some (.int .i64 (n : Int))) none).run Try.prog W = _ := fun W => cut_lh Try.underlying24 hi8 hs8 (some ⟨b, off, none⟩) n c .i64 .i64 h (n : Int) (by omega) (by omega) (by omega) W
    obtain ⟨A3, n3, c3, eA, en, ec, hbC⟩ := hb.cutE (lo := h.toNat) (hi := ((n : Int)).toNat) (by omega) (by omega)
    simp only [eA, en, ec] at hcutC
    clear eA en ec
    have m2 := hbB.max
    have m3 := hbC.max
    have x1 : (1 : Int) < n := by omega
    have x8 : (8 : Int) < n := by omega
    have x9 : (9 : Int) < n := by omega
    obtain ⟨k, hk⟩ : ∃ k, decide (16384 ≤ f) = k := ⟨_, rfl⟩
    have HK : Hid ((get16 l 6 != 0) = k) := by
      unfold Hid
      rw [HF.out, ← hk]
      by_cases z : f = 0
      · rw [z]; rfl
      · rw [show (f != 0) = true from by simpa using z]; exact (decide_eq_true (by omega)).symm
    generalize w3.drewN d4 = w4 at *
    clear hE H1 hs hf hcutA hbA hwf S pf rc TF R3 T3 b3 hB3 hb1 c0 hsd hx4
    refine region_txt 19 (by kernel_rfl) (by kernel_rfl) ?_; (iterate 19 (first | (apply ObsK.skip (by rfl)) | (apply ObsK.v (by rfl); (intro wo hT; (repeat (first | (intro v hv; (skip)) | (intro _ _ k; try have hcv := cv k))); (have bo := b4.below hT; have c1 := bo.at_ (j := 1) (by omega); have c8 := bo.at_ (j := 8) (by omega); have c9 := bo.at_ (j := 9) (by omega); have zo : w.heap.size + 1 ≤ wo.heap.size := Nat.le_trans hrl hT.size); refine Goes.mk ?_; go_simp; first | exact goes_v | exact goes_b (by assumption) | exact goes_isP zo | (refine goes_enter ?_; first | (go_at_call 47; ((with_reducible refine (rget16_any (some ⟨b, off, none⟩) n c l 4 wo bo).mono ?_); rintro e w5 ⟨rfl, hD5⟩); exact ret_v hD5.bel) | (go_at_call 49; ((with_reducible refine (rget32_any (some ⟨b, off, none⟩) n c l 12 wo bo).mono ?_); rintro e w5 ⟨rfl, hD5⟩); exact ret_v hD5.bel) | (go_at_call 49; ((with_reducible refine (rget32_any (some ⟨b, off, none⟩) n c l 16 wo bo).mono ?_); rintro e w5 ⟨rfl, hD5⟩); exact ret_v hD5.bel)))) | (apply ObsK.b (by rfl); (intro wo hT; (repeat (first | (intro v hv; (skip)) | (intro _ _ k; try have hcv := cv k))); (have bo := b4.below hT; have c1 := bo.at_ (j := 1) (by omega); have c8 := bo.at_ (j := 8) (by omega); have c9 := bo.at_ (j := 9) (by omega); have zo : w.heap.size + 1 ≤ wo.heap.size := Nat.le_trans hrl hT.size); refine Goes.mk ?_; go_simp; first | exact goes_v | exact goes_b (by assumption) | exact goes_isP zo | (refine goes_enter ?_; first | (go_at_call 47; ((with_reducible refine (rget16_any (some ⟨b, off, none⟩) n c l 4 wo bo).mono ?_); rintro e w5 ⟨rfl, hD5⟩); exact ret_v hD5.bel) | (go_at_call 49; ((with_reducible refine (rget32_any (some ⟨b, off, none⟩) n c l 12 wo bo).mono ?_); rintro e w5 ⟨rfl, hD5⟩); exact ret_v hD5.bel) | (go_at_call 49; ((with_reducible refine (rget32_any (some ⟨b, off, none⟩) n c l 16 wo bo).mono ?_); rintro e w5 ⟨rfl, hD5⟩); exact ret_v hD5.bel)))) | (apply ObsK.p (q := isP (w.heap.size + 1)) (by rfl) st_isP; (intro wo hT; (repeat (first | (intro v hv; (skip)) | (intro _ _ k; try have hcv := cv k))); (have bo := b4.below hT; have c1 := bo.at_ (j := 1) (by omega); have c8 := bo.at_ (j := 8) (by omega); have c9 := bo.at_ (j := 9) (by omega); have zo : w.heap.size + 1 ≤ wo.heap.size := Nat.le_trans hrl hT.size); refine Goes.mk ?_; go_simp; first | exact goes_v | exact goes_b (by assumption) | exact goes_isP zo | (refine goes_enter ?_; first | (go_at_call 47; ((with_reducible refine (rget16_any (some ⟨b, off, none⟩) n c l 4 wo bo).mono ?_); rintro e w5 ⟨rfl, hD5⟩); exact ret_v hD5.bel) | (go_at_call 49; ((with_reducible refine (rget32_any (some ⟨b, off, none⟩) n c l 12 wo bo).mono ?_); rintro e w5 ⟨rfl, hD5⟩); exact ret_v hD5.bel) | (go_at_call 49; ((with_reducible refine (rget32_any (some ⟨b, off, none⟩) n c l 16 wo bo).mono ?_); rintro e w5 ⟨rfl, hD5⟩); exact ret_v hD5.bel)))))); refine ObsK.nil ?_; intro wz hBz; simp only [finOn, List.drop_succ_cons, List.drop_zero, List.drop_nil]
    intro vp hvp
    obtain ⟨gp, rfl, gB, G⟩ := hvp
    go_simp
    obtain ⟨wg, hwg, SG⟩ := store9 G (.int .u8 (bt l 1)) (.int .u16 (get16 l 4)) (.bool k) (.int .u8 (bt l 8)) (.int .u8 (bt l 9)) (.int .u32 (get32 l 12)) (.int .u32 (get32 l 16)) (.slice none 0 0) (.slice none 0 0)
    have gc := G.cell
    have R5 := SG.other (by omega) (R4.below hBz)
    have T5 := SG.bel (below_then T4 hBz) (by omega)
    have G5 := SG.blk
    go_wp2_with fail
    clear hwg SG gc G R4 T4 b4 hBz hk
    refine region_txt 5 (by kernel_rfl) (by kernel_rfl) ?_; (iterate 5 (first | (apply ObsK.skip (by rfl)) | (apply ObsK.v (by rfl); (intro wo hT; (repeat (first | (intro _ _ k; try have hcv := cv k))); (have gc := (G5.below hT).cell); refine Goes.mk ?_; go_simp; first | exact goes_v | exact goes_b (by assumption) | (refine goes_enter ?_; first | fail))) | (apply ObsK.b (by rfl); (intro wo hT; (repeat (first | (intro _ _ k; try have hcv := cv k))); (have gc := (G5.below hT).cell); refine Goes.mk ?_; go_simp; first | exact goes_v | exact goes_b (by assumption) | (refine goes_enter ?_; first | fail))))); refine ObsK.nil ?_; intro wz hBz; simp only [finOn, List.drop_succ_cons, List.drop_zero, List.drop_nil]
    go_simp
    have R6 := R5.below hBz
    have G6 := G5.below hBz
    have T6 := below_then T5 hBz
    have gl := G6.lt
    have rl := R6.lt
    have fc6 := G6.cell.2
    clear R5 G5 T5 hBz
    go_wp2_with (first
      | (at_builtin; refine wpList_append_bs (w0 := wz) _ rfl _ _ _ rfl wz.heap.size 5 Try.underlying24 info_u8 none 0 0 [] rfl (own_nil _ _ _) A2 n2 c2 _ rfl (hbB.below T6) (Below.refl _ _) (by omega) (by first | exact Nat.le_refl _ | exact Below.size (Below.refl _ _) | omega | (simp <;> omega)) ?_; intro A7 n7 c7 w7 ho7 hB7 _ hz7; have u7 : n7 = n2 := (by have := ho7.len; have := hbB.len; simp at *; omega); subst u7; have g7 := (G6.below hB7).cell))
    have a7 := ho7.ge
    have k7 := ho7.bs
    have G8 : Blk (w7.setCell ⟨gp, 7, none⟩ (.slice A7 n7 c7)) gp #[.int .u8 (bt l 1), .int .u16 (get16 l 4), .bool k, .int .u8 (bt l 8), .int .u8 (bt l 9), .int .u32 (get32 l 12), .int .u32 (get32 l 16), .slice A7 n7 c7, .slice none 0 0] 26 := by
      have := (G6.below hB7).set_ 7 (.slice A7 n7 c7)
      simp only [List.setIfInBounds_toArray, List.set_cons_zero, List.set_cons_succ] at this
      exact this
    have R8 := (R6.below hB7).far ⟨gp, 7, none⟩ (by simp; omega) (.slice A7 n7 c7)
    have T8 := (below_then T6 hB7).setCell (p := ⟨gp, 7, none⟩) (by simp; omega) (.slice A7 n7 c7)
    have k8 := k7.away ⟨gp, 7, none⟩ (fun a e => by have := a7 a e; simp; omega) (.slice A7 n7 c7)
    have a8 : ∀ a, A7 = some a → gp < a.block := fun a e => by have := a7 a e; omega
    generalize w7.setCell ⟨gp, 7, none⟩ (.slice A7 n7 c7) = w8 at *
    clear g7 fc6 ho7 hB7 k7 a7 G6 R6 T6 gl rl hz7
    refine region_txt 6 (by kernel_rfl) (by kernel_rfl) ?_; (iterate 6 (first | (apply ObsK.skip (by rfl)) | (apply ObsK.v (by rfl); (intro wo hT; (repeat (first | (intro _ _ k; try have hcv := cv k))); (have gc := (G8.below hT).cell); refine Goes.mk ?_; go_simp; first | exact goes_v | exact goes_b (by assumption) | (refine goes_enter ?_; first | fail))) | (apply ObsK.b (by rfl); (intro wo hT; (repeat (first | (intro _ _ k; try have hcv := cv k))); (have gc := (G8.below hT).cell); refine Goes.mk ?_; go_simp; first | exact goes_v | exact goes_b (by assumption) | (refine goes_enter ?_; first | fail))))); refine ObsK.nil ?_; intro wz hBz; simp only [finOn, List.drop_succ_cons, List.drop_zero, List.drop_nil]
    go_simp
    have R9 := R8.below hBz
    have G9 := G8.below hBz
    have T9 := below_then T8 hBz
    have k9 := k8.below hBz
    have gl := G9.lt
    have rl := R9.lt
    have fc9 := G9.cell.2
    clear R8 G8 T8 hBz k8
    go_wp2_with (first
      | (at_builtin; refine wpList_append_bs (w0 := wz) _ rfl _ _ _ rfl wz.heap.size 5 Try.underlying24 info_u8 none 0 0 [] rfl (own_nil _ _ _) A3 n3 c3 _ rfl (hbC.below T9) (Below.refl _ _) (by omega) (by first | exact Nat.le_refl _ | exact Below.size (Below.refl _ _) | omega | (simp <;> omega)) ?_; intro A10 n10 c10 w10 ho10 hB10 _ hz10; have u10 : n10 = n3 := (by have := ho10.len; have := hbC.len; simp at *; omega); subst u10; have g10 := (G9.below hB10).cell; have r10 := (R9.below hB10).cell; (obtain ⟨w11, hw11, S11⟩ := store1 (G9.below hB10) 8 (.slice A10 n10 c10)); have g11 := S11.blk.cell; have R11 := S11.other (by omega) (R9.below hB10); have r11 := R11.cell; (obtain ⟨w12, hw12, S12⟩ := store9 R11 (.int .u8 (bt l 1)) (.int .u16 (get16 l 4)) (.bool k) (.int .u8 (bt l 8)) (.int .u8 (bt l 9)) (.int .u32 (get32 l 12)) (.int .u32 (get32 l 16)) (.slice A7 n7 c7) (.slice A10 n10 c10))))
    have a10 := ho10.ge
    have k10 := ho10.bs
    have T12 := S12.bel (S11.bel (below_then T9 hB10) (by omega)) (Nat.le_refl _)
    have K10 := S12.bs (S11.bs k10 (fun a e => by have := a10 a e; omega)) (fun a e => by have := a10 a e; omega)
    have K9 := S12.bs (S11.bs (k9.below hB10) (fun a e => by have := a8 a e; omega)) (fun a e => by have := a8 a e; omega)
    have pf := S12.blk.cell
    have hR : rdPk true l = rdP l := by unfold rdPk; rw [if_pos HE0.out]
    have e1 : (rdP l).keep = k := HK.out
    have e2 : (rdP l).opt = List.drop 20 (List.take h.toNat l) := by rw [← HH.out]; rfl
    have e3 : (rdP l).dat = List.drop h.toNat (List.take ((n : Int)).toNat l) := by rw [← HH.out, ← HM.out]; rfl
    refine bodyPost_ret (v := .tuple #[.agg #[.int .u8 (bt l 1), .int .u16 (get16 l 4), .bool k, .int .u8 (bt l 8), .int .u8 (bt l 9), .int .u32 (get32 l 12), .int .u32 (get32 l 16), .slice A7 n7 c7, .slice A10 n10 c10], .int .i64 0]) (by simp [results, Try.results36, go_sem, pf]) rfl
      ⟨A7, n7, c7, A10, n10, c10, by rw [hR, HE0.out, e1]; rfl, by rw [hR, e2]; exact K9, by rw [hR, e3]; exact K10, fun a e => by have := a8 a e; omega, fun a e => by have := a10 a e; omega, T12⟩
  · have hmg : m = g := by rw [HAM.out, if_neg hng]
    rw [hmg] at f5 f6 HE HM
    have hgn : g ≤ (n : Int) := by omega
    clear hmg HAM hng f8 f9
    cases q with
    | true =>
      go_enter Try.func36, Try.ntmps36
      go_wp2_with (first
        | (go_at_call 47; ((with_reducible refine (rget16_any (some ⟨b, off, none⟩) n c l 2 _ hb1).mono ?_); rintro e w2 ⟨rfl, ⟨⟨d2, rfl⟩⟩⟩))
        | (go_at_call 48; ((with_reducible refine (rgood_any (some ⟨b, off, none⟩) h.toNat c (l.take h.toNat) (by omega) _ (hbA _ (hb1.drewN _))).mono ?_); rintro e w3 ⟨rfl, hB3⟩); have R3 := ((blk_new w #[.int .u8 0, .int .u16 0, .bool false, .int .u8 0, .int .u8 0, .int .u32 0, .int .u32 0, .slice none 0 0, .slice none 0 0] 26 _ rfl).drewN d2).below hB3; have b3 := (hb1.drewN d2).below hB3; have T3 := below_then (below_drewN ((Below.refl _ w).alloc (Nat.le_refl _) _) d2) hB3; (obtain ⟨wf, hwf, S⟩ := store9 R3 (.int .u8 0) (.int .u16 0) (.bool false) (.int .u8 0) (.int .u8 0) (.int .u32 0) (.int .u32 0) (.slice none 0 0) (.slice none 0 0)); have pf := S.blk.cell; have rc := R3.cell; have TF := S.bel T3 (Nat.le_refl _))
        | (go_at_call 47; ((with_reducible refine (rget16_any (some ⟨b, off, none⟩) n c l 6 _ b3).mono ?_); rintro e w4 ⟨rfl, ⟨⟨d4, rfl⟩⟩⟩)))
      all_goals have H1 := HE.out
      all_goals simp only [Bool.not_eq_true', Bool.not_eq_false', beq_iff_eq, beq_eq_false_iff_ne, bne_iff_ne, ne_eq, bne_eq_false_iff_eq, true_and, false_and, Bool.false_eq_true, if_false] at *
      all_goals first
        | (refine bodyPost_ret (v := .tuple #[.agg #[.int .u8 0, .int .u16 0, .bool false, .int .u8 0, .int .u8 0, .int .u32 0, .int .u32 0, .slice none 0 0, .slice none 0 0], .int .i64 5]) ?_ rfl (rdPost_no 5 (H1.trans ?_) (by omega) ?_); (focus (simp [results, Try.results36, go_sem, pf]; done)); (focus (repeat' split; all_goals first | rfl | omega)); (first | exact TF | exact below_drewN TF _))
        | (refine bodyPost_ret (v := .tuple #[.agg #[.int .u8 0, .int .u16 0, .bool false, .int .u8 0, .int .u8 0, .int .u32 0, .int .u32 0, .slice none 0 0, .slice none 0 0], .int .i64 7]) ?_ rfl (rdPost_no 7 (H1.trans ?_) (by omega) ?_); (focus (simp [results, Try.results36, go_sem, pf]; done)); (focus (repeat' split; all_goals first | rfl | omega)); (first | exact TF | exact below_drewN TF _))
        | (refine bodyPost_ret (v := .tuple #[.agg #[.int .u8 0, .int .u16 0, .bool false, .int .u8 0, .int .u8 0, .int .u32 0, .int .u32 0, .slice none 0 0, .slice none 0 0], .int .i64 4]) ?_ rfl (rdPost_no 4 (H1.trans ?_) (by omega) ?_); (focus (simp [results, Try.results36, go_sem, pf]; done)); (focus (repeat' split; all_goals first | rfl | omega)); (first | exact TF | exact below_drewN TF _))
        | (refine bodyPost_ret (v := .tuple #[.agg #[.int .u8 0, .int .u16 0, .bool false, .int .u8 0, .int .u8 0, .int .u32 0, .int .u32 0, .slice none 0 0, .slice none 0 0], .int .i64 3]) ?_ rfl (rdPost_no 3 (H1.trans ?_) (by omega) ?_); (focus (simp [results, Try.results36, go_sem, pf]; done)); (focus (repeat' split; all_goals first | rfl | omega)); (first | exact TF | exact below_drewN TF _))
        | skip
      have hE : rdE true l = 0 := by
        rw [H1]
        repeat' split
        all_goals first | rfl | omega
      have HE0 := Lib.hid hE
      have b4 := b3.drewN d4
      have R4 := R3.drewN d4
      have T4 := below_drewN T3 d4
      have hrl := R4.lt
      have hcutB : ∀ W, (Instr.slice 24 (.slice (some ⟨b, off, none⟩) n c) (some (.int .i64 20)) (some (.int .i64 h)) none).run Try.prog W = _ := fun W => cut_lh Try.underlying24 hi8 hs8 (some ⟨b, off, none⟩) n c .i64 .i64 20 h (by omega) (by omega) (by omega) W
      obtain ⟨A2, n2, c2, eA, en, ec, hbB⟩ := hb.cutE (lo := 20) (hi := h.toNat) (by omega) (by omega)
      simp only [show (20 : Int).toNat = 20 from rfl, eA, en, ec] at hcutB
      clear eA en ec
      have hcutC : ∀ W, (Instr.slice 24 (.slice (some ⟨b, off, none⟩) n c) (some (.int .i64 h)) (some (.int .i64 g)) none).run Try.prog W = _ := fun W => cut_lh Try.underlying24 hi8 hs8 (some ⟨b, off, none⟩) n c .i64 .i64 h g (by omega) (by omega) (by omega) W
      obtain ⟨A3, n3, c3, eA, en, ec, hbC⟩ := hb.cutE (lo := h.toNat) (hi := (g).toNat) (by omega) (by omega)
      simp only [eA, en, ec] at hcutC
      clear eA en ec
      have m2 := hbB.max
      have m3 := hbC.max
      have x1 : (1 : Int) < n := by omega
      have x8 : (8 : Int) < n := by omega
      have x9 : (9 : Int) < n := by omega
      obtain ⟨k, hk⟩ : ∃ k, decide (16384 ≤ f) = k := ⟨_, rfl⟩
      have HK : Hid ((get16 l 6 != 0) = k) := by
        unfold Hid
        rw [HF.out, ← hk]
        by_cases z : f = 0
        · rw [z]; rfl
        · rw [show (f != 0) = true from by simpa using z]; exact (decide_eq_true (by omega)).symm
      generalize w3.drewN d4 = w4 at *
      clear hE H1 hs hf hcutA hbA hwf S pf rc TF R3 T3 b3 hB3 hb1 c0 hsd hx4
      refine region_txt 19 (by kernel_rfl) (by kernel_rfl) ?_; (iterate 19 (first | (apply ObsK.skip (by rfl)) | (apply ObsK.v (by rfl); (intro wo hT; (repeat (first | (intro v hv; (skip)) | (intro _ _ k; try have hcv := cv k))); (have bo := b4.below hT; have c1 := bo.at_ (j := 1) (by omega); have c8 := bo.at_ (j := 8) (by omega); have c9 := bo.at_ (j := 9) (by omega); have zo : w.heap.size + 1 ≤ wo.heap.size := Nat.le_trans hrl hT.size); refine Goes.mk ?_; go_simp; first | exact goes_v | exact goes_b (by assumption) | exact goes_isP zo | (refine goes_enter ?_; first | (go_at_call 47; ((with_reducible refine (rget16_any (some ⟨b, off, none⟩) n c l 4 wo bo).mono ?_); rintro e w5 ⟨rfl, hD5⟩); exact ret_v hD5.bel) | (go_at_call 49; ((with_reducible refine (rget32_any (some ⟨b, off, none⟩) n c l 12 wo bo).mono ?_); rintro e w5 ⟨rfl, hD5⟩); exact ret_v hD5.bel) | (go_at_call 49; ((with_reducible refine (rget32_any (some ⟨b, off, none⟩) n c l 16 wo bo).mono ?_); rintro e w5 ⟨rfl, hD5⟩); exact ret_v hD5.bel)))) | (apply ObsK.b (by rfl); (intro wo hT; (repeat (first | (intro v hv; (skip)) | (intro _ _ k; try have hcv := cv k))); (have bo := b4.below hT; have c1 := bo.at_ (j := 1) (by omega); have c8 := bo.at_ (j := 8) (by omega); have c9 := bo.at_ (j := 9) (by omega); have zo : w.heap.size + 1 ≤ wo.heap.size := Nat.le_trans hrl hT.size); refine Goes.mk ?_; go_simp; first | exact goes_v | exact goes_b (by assumption) | exact goes_isP zo | (refine goes_enter ?_; first | (go_at_call 47; ((with_reducible refine (rget16_any (some ⟨b, off, none⟩) n c l 4 wo bo).mono ?_); rintro e w5 ⟨rfl, hD5⟩); exact ret_v hD5.bel) | (go_at_call 49; ((with_reducible refine (rget32_any (some ⟨b, off, none⟩) n c l 12 wo bo).mono ?_); rintro e w5 ⟨rfl, hD5⟩); exact ret_v hD5.bel) | (go_at_call 49; ((with_reducible refine (rget32_any (some ⟨b, off, none⟩) n c l 16 wo bo).mono ?_); rintro e w5 ⟨rfl, hD5⟩); exact ret_v hD5.bel)))) | (apply ObsK.p (q := isP (w.heap.size + 1)) (by rfl) st_isP; (intro wo hT; (repeat (first | (intro v hv; (skip)) | (intro _ _ k; try have hcv := cv k))); (have bo := b4.below hT; have c1 := bo.at_ (j := 1) (by omega); have c8 := bo.at_ (j := 8) (by omega); have c9 := bo.at_ (j := 9) (by omega); have zo : w.heap.size + 1 ≤ wo.heap.size := Nat.le_trans hrl hT.size); refine Goes.mk ?_; go_simp; first | exact goes_v | exact goes_b (by assumption) | exact goes_isP zo | (refine goes_enter ?_; first | (go_at_call 47; ((with_reducible refine (rget16_any (some ⟨b, off, none⟩) n c l 4 wo bo).mono ?_); rintro e w5 ⟨rfl, hD5⟩); exact ret_v hD5.bel) | (go_at_call 49; ((with_reducible refine (rget32_any (some ⟨b, off, none⟩) n c l 12 wo bo).mono ?_); rintro e w5 ⟨rfl, hD5⟩); exact ret_v hD5.bel) | (go_at_call 49; ((with_reducible refine (rget32_any (some ⟨b, off, none⟩) n c l 16 wo bo).mono ?_); rintro e w5 ⟨rfl, hD5⟩); exact ret_v hD5.bel)))))); refine ObsK.nil ?_; intro wz hBz; simp only [finOn, List.drop_succ_cons, List.drop_zero, List.drop_nil]
      intro vp hvp
      obtain ⟨gp, rfl, gB, G⟩ := hvp
      go_simp
      obtain ⟨wg, hwg, SG⟩ := store9 G (.int .u8 (bt l 1)) (.int .u16 (get16 l 4)) (.bool k) (.int .u8 (bt l 8)) (.int .u8 (bt l 9)) (.int .u32 (get32 l 12)) (.int .u32 (get32 l 16)) (.slice none 0 0) (.slice none 0 0)
      have gc := G.cell
      have R5 := SG.other (by omega) (R4.below hBz)
      have T5 := SG.bel (below_then T4 hBz) (by omega)
      have G5 := SG.blk
      go_wp2_with fail
      clear hwg SG gc G R4 T4 b4 hBz hk
      refine region_txt 5 (by kernel_rfl) (by kernel_rfl) ?_; (iterate 5 (first | (apply ObsK.skip (by rfl)) | (apply ObsK.v (by rfl); (intro wo hT; (repeat (first | (intro _ _ k; try have hcv := cv k))); (have gc := (G5.below hT).cell); refine Goes.mk ?_; go_simp; first | exact goes_v | exact goes_b (by assumption) | (refine goes_enter ?_; first | fail))) | (apply ObsK.b (by rfl); (intro wo hT; (repeat (first | (intro _ _ k; try have hcv := cv k))); (have gc := (G5.below hT).cell); refine Goes.mk ?_; go_simp; first | exact goes_v | exact goes_b (by assumption) | (refine goes_enter ?_; first | fail))))); refine ObsK.nil ?_; intro wz hBz; simp only [finOn, List.drop_succ_cons, List.drop_zero, List.drop_nil]
      go_simp
      have R6 := R5.below hBz
      have G6 := G5.below hBz
      have T6 := below_then T5 hBz
      have gl := G6.lt
      have rl := R6.lt
      have fc6 := G6.cell.2
      clear R5 G5 T5 hBz
      go_wp2_with (first
        | (at_builtin; refine wpList_append_bs (w0 := wz) _ rfl _ _ _ rfl wz.heap.size 5 Try.underlying24 info_u8 none 0 0 [] rfl (own_nil _ _ _) A2 n2 c2 _ rfl (hbB.below T6) (Below.refl _ _) (by omega) (by first | exact Nat.le_refl _ | exact Below.size (Below.refl _ _) | omega | (simp <;> omega)) ?_; intro A7 n7 c7 w7 ho7 hB7 _ hz7; have u7 : n7 = n2 := (by have := ho7.len; have := hbB.len; simp at *; omega); subst u7; have g7 := (G6.below hB7).cell))
      have a7 := ho7.ge
      have k7 := ho7.bs
      have G8 : Blk (w7.setCell ⟨gp, 7, none⟩ (.slice A7 n7 c7)) gp #[.int .u8 (bt l 1), .int .u16 (get16 l 4), .bool k, .int .u8 (bt l 8), .int .u8 (bt l 9), .int .u32 (get32 l 12), .int .u32 (get32 l 16), .slice A7 n7 c7, .slice none 0 0] 26 := by
        have := (G6.below hB7).set_ 7 (.slice A7 n7 c7)
        simp only [List.setIfInBounds_toArray, List.set_cons_zero, List.set_cons_succ] at this
        exact this
      have R8 := (R6.below hB7).far ⟨gp, 7, none⟩ (by simp; omega) (.slice A7 n7 c7)
      have T8 := (below_then T6 hB7).setCell (p := ⟨gp, 7, none⟩) (by simp; omega) (.slice A7 n7 c7)
      have k8 := k7.away ⟨gp, 7, none⟩ (fun a e => by have := a7 a e; simp; omega) (.slice A7 n7 c7)
      have a8 : ∀ a, A7 = some a → gp < a.block := fun a e => by have := a7 a e; omega
      generalize w7.setCell ⟨gp, 7, none⟩ (.slice A7 n7 c7) = w8 at *
      clear g7 fc6 ho7 hB7 k7 a7 G6 R6 T6 gl rl hz7
      refine region_txt 6 (by kernel_rfl) (by kernel_rfl) ?_; (iterate 6 (first | (apply ObsK.skip (by rfl)) | (apply ObsK.v (by rfl); (intro wo hT; (repeat (first | (intro _ _ k; try have hcv := cv k))); (have gc := (G8.below hT).cell); refine Goes.mk ?_; go_simp; first | exact goes_v | exact goes_b (by assumption) | (refine goes_enter ?_; first | fail))) | (apply ObsK.b (by rfl); (intro wo hT; (repeat (first | (intro _ _ k; try have hcv := cv k))); (have gc := (G8.below hT).cell); refine Goes.mk ?_; go_simp; first | exact goes_v | exact goes_b (by assumption) | (refine goes_enter ?_; first | fail))))); refine ObsK.nil ?_; intro wz hBz; simp only [finOn, List.drop_succ_cons, List.drop_zero, List.drop_nil]
      go_simp
      have R9 := R8.below hBz
      have G9 := G8.below hBz
      have T9 := below_then T8 hBz
      have k9 := k8.below hBz
      have gl := G9.lt
      have rl := R9.lt
      have fc9 := G9.cell.2
      clear R8 G8 T8 hBz k8
      go_wp2_with (first
        | (at_builtin; refine wpList_append_bs (w0 := wz) _ rfl _ _ _ rfl wz.heap.size 5 Try.underlying24 info_u8 none 0 0 [] rfl (own_nil _ _ _) A3 n3 c3 _ rfl (hbC.below T9) (Below.refl _ _) (by omega) (by first | exact Nat.le_refl _ | exact Below.size (Below.refl _ _) | omega | (simp <;> omega)) ?_; intro A10 n10 c10 w10 ho10 hB10 _ hz10; have u10 : n10 = n3 := (by have := ho10.len; have := hbC.len; simp at *; omega); subst u10; have g10 := (G9.below hB10).cell; have r10 := (R9.below hB10).cell; (obtain ⟨w11, hw11, S11⟩ := store1 (G9.below hB10) 8 (.slice A10 n10 c10)); have g11 := S11.blk.cell; have R11 := S11.other (by omega) (R9.below hB10); have r11 := R11.cell; (obtain ⟨w12, hw12, S12⟩ := store9 R11 (.int .u8 (bt l 1)) (.int .u16 (get16 l 4)) (.bool k) (.int .u8 (bt l 8)) (.int .u8 (bt l 9)) (.int .u32 (get32 l 12)) (.int .u32 (get32 l 16)) (.slice A7 n7 c7) (.slice A10 n10 c10))))
      have a10 := ho10.ge
      have k10 := ho10.bs
      have T12 := S12.bel (S11.bel (below_then T9 hB10) (by omega)) (Nat.le_refl _)
      have K10 := S12.bs (S11.bs k10 (fun a e => by have := a10 a e; omega)) (fun a e => by have := a10 a e; omega)
      have K9 := S12.bs (S11.bs (k9.below hB10) (fun a e => by have := a8 a e; omega)) (fun a e => by have := a8 a e; omega)
      have pf := S12.blk.cell
      have hR : rdPk true l = rdP l := by unfold rdPk; rw [if_pos HE0.out]
      have e1 : (rdP l).keep = k := HK.out
      have e2 : (rdP l).opt = List.drop 20 (List.take h.toNat l) := by rw [← HH.out]; rfl
      have e3 : (rdP l).dat = List.drop h.toNat (List.take (g).toNat l) := by rw [← HH.out, ← HM.out]; rfl
      refine bodyPost_ret (v := .tuple #[.agg #[.int .u8 (bt l 1), .int .u16 (get16 l 4), .bool k, .int .u8 (bt l 8), .int .u8 (bt l 9), .int .u32 (get32 l 12), .int .u32 (get32 l 16), .slice A7 n7 c7, .slice A10 n10 c10], .int .i64 0]) (by simp [results, Try.results36, go_sem, pf]) rfl
        ⟨A7, n7, c7, A10, n10, c10, by rw [hR, HE0.out, e1]; rfl, by rw [hR, e2]; exact K9, by rw [hR, e3]; exact K10, fun a e => by have := a8 a e; omega, fun a e => by have := a10 a e; omega, T12⟩
    | false =>
      go_enter Try.func36, Try.ntmps36
      go_wp2_with (first
        | (go_at_call 47; ((with_reducible refine (rget16_any (some ⟨b, off, none⟩) n c l 2 _ hb1).mono ?_); rintro e w2 ⟨rfl, ⟨⟨d2, rfl⟩⟩⟩))
        | (go_at_call 48; ((with_reducible refine (rgood_any (some ⟨b, off, none⟩) h.toNat c (l.take h.toNat) (by omega) _ (hbA _ (hb1.drewN _))).mono ?_); rintro e w3 ⟨rfl, hB3⟩); have R3 := ((blk_new w #[.int .u8 0, .int .u16 0, .bool false, .int .u8 0, .int .u8 0, .int .u32 0, .int .u32 0, .slice none 0 0, .slice none 0 0] 26 _ rfl).drewN d2).below hB3; have b3 := (hb1.drewN d2).below hB3; have T3 := below_then (below_drewN ((Below.refl _ w).alloc (Nat.le_refl _) _) d2) hB3; (obtain ⟨wf, hwf, S⟩ := store9 R3 (.int .u8 0) (.int .u16 0) (.bool false) (.int .u8 0) (.int .u8 0) (.int .u32 0) (.int .u32 0) (.slice none 0 0) (.slice none 0 0)); have pf := S.blk.cell; have rc := R3.cell; have TF := S.bel T3 (Nat.le_refl _))
        | (go_at_call 47; ((with_reducible refine (rget16_any (some ⟨b, off, none⟩) n c l 6 _ b3).mono ?_); rintro e w4 ⟨rfl, ⟨⟨d4, rfl⟩⟩⟩)))
      all_goals have H1 := HE.out
      all_goals simp only [Bool.not_eq_true', Bool.not_eq_false', beq_iff_eq, beq_eq_false_iff_ne, bne_iff_ne, ne_eq, bne_eq_false_iff_eq, true_and, false_and, Bool.false_eq_true, if_false] at *
      all_goals first
        | (refine bodyPost_ret (v := .tuple #[.agg #[.int .u8 0, .int .u16 0, .bool false, .int .u8 0, .int .u8 0, .int .u32 0, .int .u32 0, .slice none 0 0, .slice none 0 0], .int .i64 5]) ?_ rfl (rdPost_no 5 (H1.trans ?_) (by omega) ?_); (focus (simp [results, Try.results36, go_sem, pf]; done)); (focus (repeat' split; all_goals first | rfl | omega)); (first | exact TF | exact below_drewN TF _))
        | (refine bodyPost_ret (v := .tuple #[.agg #[.int .u8 0, .int .u16 0, .bool false, .int .u8 0, .int .u8 0, .int .u32 0, .int .u32 0, .slice none 0 0, .slice none 0 0], .int .i64 7]) ?_ rfl (rdPost_no 7 (H1.trans ?_) (by omega) ?_); (focus (simp [results, Try.results36, go_sem, pf]; done)); (focus (repeat' split; all_goals first | rfl | omega)); (first | exact TF | exact below_drewN TF _))
        | (refine bodyPost_ret (v := .tuple #[.agg #[.int .u8 0, .int .u16 0, .bool false, .int .u8 0, .int .u8 0, .int .u32 0, .int .u32 0, .slice none 0 0, .slice none 0 0], .int .i64 4]) ?_ rfl (rdPost_no 4 (H1.trans ?_) (by omega) ?_); (focus (simp [results, Try.results36, go_sem, pf]; done)); (focus (repeat' split; all_goals first | rfl | omega)); (first | exact TF | exact below_drewN TF _))
        | (refine bodyPost_ret (v := .tuple #[.agg #[.int .u8 0, .int .u16 0, .bool false, .int .u8 0, .int .u8 0, .int .u32 0, .int .u32 0, .slice none 0 0, .slice none 0 0], .int .i64 3]) ?_ rfl (rdPost_no 3 (H1.trans ?_) (by omega) ?_); (focus (simp [results, Try.results36, go_sem, pf]; done)); (focus (repeat' split; all_goals first | rfl | omega)); (first | exact TF | exact below_drewN TF _))
        | skip
      have hE : rdE false l = 0 := by
        rw [H1]
        repeat' split
        all_goals first | rfl | omega
      have HE0 := Lib.hid hE
      have b4 := b3.drewN d4
      have R4 := R3.drewN d4
      have T4 := below_drewN T3 d4
      have hrl := R4.lt
      have hcutB : ∀ W, (Instr.slice 24 (.slice (some ⟨b, off, none⟩) n c) (some (.int .i64 20)) (some (.int .i64 h)) none).run Try.prog W = _ := fun W => cut_lh Try.underlying24 hi8 hs8 (some ⟨b, off, none⟩) n c .i64 .i64 20 h (by omega) (by omega) (by omega) W
      obtain ⟨A2, n2, c2, eA, en, ec, hbB⟩ := hb.cutE (lo := 20) (hi := h.toNat) (by omega) (by omega)
      simp only [show (20 : Int).toNat = 20 from rfl, eA, en, ec] at hcutB
      clear eA en ec
      have hcutC : ∀ W, (Instr.slice 24 (.slice (some ⟨b, off, none⟩) n c) (some (.int .i64 h)) (some (.int .i64 g)) none).run Try.prog W = _ := fun W => cut_lh Try.underlying24 hi8 hs8 (some ⟨b, off, none⟩) n c .i64 .i64 h g (by omega) (by omega) (by omega) W
      obtain ⟨A3, n3, c3, eA, en, ec, hbC⟩ := hb.cutE (lo := h.toNat) (hi := (g).toNat) (by omega) (by omega)
      simp only [eA, en, ec] at hcutC
      clear eA en ec
      have m2 := hbB.max
      have m3 := hbC.max
      have x1 : (1 : Int) < n := by omega
      have x8 : (8 : Int) < n := by omega
      have x9 : (9 : Int) < n := by omega
      obtain ⟨k, hk⟩ : ∃ k, decide (16384 ≤ f) = k := ⟨_, rfl⟩
      have HK : Hid ((get16 l 6 != 0) = k) := by
        unfold Hid
        rw [HF.out, ← hk]
        by_cases z : f = 0
        · rw [z]; rfl
        · rw [show (f != 0) = true from by simpa using z]; exact (decide_eq_true (by omega)).symm
      generalize w3.drewN d4 = w4 at *
      clear hE H1 hs hf hcutA hbA hwf S pf rc TF R3 T3 b3 hB3 hb1 c0 hsd hx4
      refine region_txt 19 (by kernel_rfl) (by kernel_rfl) ?_; (iterate 19 (first | (apply ObsK.skip (by rfl)) | (apply ObsK.v (by rfl); (intro wo hT; (repeat (first | (intro v hv; (skip)) | (intro _ _ k; try have hcv := cv k))); (have bo := b4.below hT; have c1 := bo.at_ (j := 1) (by omega); have c8 := bo.at_ (j := 8) (by omega); have c9 := bo.at_ (j := 9) (by omega); have zo : w.heap.size + 1 ≤ wo.heap.size := Nat.le_trans hrl hT.size); refine Goes.mk ?_; go_simp; first | exact goes_v | exact goes_b (by assumption) | exact goes_isP zo | (refine goes_enter ?_; first | (go_at_call 47; ((with_reducible refine (rget16_any (some ⟨b, off, none⟩) n c l 4 wo bo).mono ?_); rintro e w5 ⟨rfl, hD5⟩); exact ret_v hD5.bel) | (go_at_call 49; ((with_reducible refine (rget32_any (some ⟨b, off, none⟩) n c l 12 wo bo).mono ?_); rintro e w5 ⟨rfl, hD5⟩); exact ret_v hD5.bel) | (go_at_call 49; ((with_reducible refine (rget32_any (some ⟨b, off, none⟩) n c l 16 wo bo).mono ?_); rintro e w5 ⟨rfl, hD5⟩); exact ret_v hD5.bel)))) | (apply ObsK.b (by rfl); (intro wo hT; (repeat (first | (intro v hv; (skip)) | (intro _ _ k; try have hcv := cv k))); (have bo := b4.below hT; have c1 := bo.at_ (j := 1) (by omega); have c8 := bo.at_ (j := 8) (by omega); have c9 := bo.at_ (j := 9) (by omega); have zo : w.heap.size + 1 ≤ wo.heap.size := Nat.le_trans hrl hT.size); refine Goes.mk ?_; go_simp; first | exact goes_v | exact goes_b (by assumption) | exact goes_isP zo | (refine goes_enter ?_; first | (go_at_call 47; ((with_reducible refine (rget16_any (some ⟨b, off, none⟩) n c l 4 wo bo).mono ?_); rintro e w5 ⟨rfl, hD5⟩); exact ret_v hD5.bel) | (go_at_call 49; ((with_reducible refine (rget32_any (some ⟨b, off, none⟩) n c l 12 wo bo).mono ?_); rintro e w5 ⟨rfl, hD5⟩); exact ret_v hD5.bel) | (go_at_call 49; ((with_reducible refine (rget32_any (some ⟨b, off, none⟩) n c l 16 wo bo).mono ?_); rintro e w5 ⟨rfl, hD5⟩); exact ret_v hD5.bel)))) | (apply ObsK.p (q := isP (w.heap.size + 1)) (by rfl) st_isP; (intro wo hT; (repeat (first | (intro v hv; (skip)) | (intro _ _ k; try have hcv := cv k))); (have bo := b4.below hT; have c1 := bo.at_ (j := 1) (by omega); have c8 := bo.at_ (j := 8) (by omega); have c9 := bo.at_ (j := 9) (by omega); have zo : w.heap.size + 1 ≤ wo.heap.size := Nat.le_trans hrl hT.size); refine Goes.mk ?_; go_simp; first | exact goes_v | exact goes_b (by assumption) | exact goes_isP zo | (refine goes_enter ?_; first | (go_at_call 47; ((with_reducible refine (rget16_any (some ⟨b, off, none⟩) n c l 4 wo bo).mono ?_); rintro e w5 ⟨rfl, hD5⟩); exact ret_v hD5.bel) | (go_at_call 49; ((with_reducible refine (rget32_any (some ⟨b, off, none⟩) n c l 12 wo bo).mono ?_); rintro e w5 ⟨rfl, hD5⟩); exact ret_v hD5.bel) | (go_at_call 49; ((with_reducible refine (rget32_any (some ⟨b, off, none⟩) n c l 16 wo bo).mono ?_); rintro e w5 ⟨rfl, hD5⟩); exact ret_v hD5.bel)))))); refine ObsK.nil ?_; intro wz hBz; simp only [finOn, List.drop_succ_cons, List.drop_zero, List.drop_nil]
      intro vp hvp
      obtain ⟨gp, rfl, gB, G⟩ := hvp
      go_simp
      obtain ⟨wg, hwg, SG⟩ := store9 G (.int .u8 (bt l 1)) (.int .u16 (get16 l 4)) (.bool k) (.int .u8 (bt l 8)) (.int .u8 (bt l 9)) (.int .u32 (get32 l 12)) (.int .u32 (get32 l 16)) (.slice none 0 0) (.slice none 0 0)
      have gc := G.cell
      have R5 := SG.other (by omega) (R4.below hBz)
      have T5 := SG.bel (below_then T4 hBz) (by omega)
      have G5 := SG.blk
      go_wp2_with fail
      clear hwg SG gc G R4 T4 b4 hBz hk
      refine region_txt 5 (by kernel_rfl) (by kernel_rfl) ?_; (iterate 5 (first | (apply ObsK.skip (by rfl)) | (apply ObsK.v (by rfl); (intro wo hT; (repeat (first | (intro _ _ k; try have hcv := cv k))); (have gc := (G5.below hT).cell); refine Goes.mk ?_; go_simp; first | exact goes_v | exact goes_b (by assumption) | (refine goes_enter ?_; first | fail))) | (apply ObsK.b (by rfl); (intro wo hT; (repeat (first | (intro _ _ k; try have hcv := cv k))); (have gc := (G5.below hT).cell); refine Goes.mk ?_; go_simp; first | exact goes_v | exact goes_b (by assumption) | (refine goes_enter ?_; first | fail))))); refine ObsK.nil ?_; intro wz hBz; simp only [finOn, List.drop_succ_cons, List.drop_zero, List.drop_nil]
      go_simp
      have R6 := R5.below hBz
      have G6 := G5.below hBz
      have T6 := below_then T5 hBz
      have gl := G6.lt
      have rl := R6.lt
      have fc6 := G6.cell.2
      clear R5 G5 T5 hBz
      go_wp2_with (first
        | (at_builtin; refine wpList_append_bs (w0 := wz) _ rfl _ _ _ rfl wz.heap.size 5 Try.underlying24 info_u8 none 0 0 [] rfl (own_nil _ _ _) A2 n2 c2 _ rfl (hbB.below T6) (Below.refl _ _) (by omega) (by first | exact Nat.le_refl _ | exact Below.size (Below.refl _ _) | omega | (simp <;> omega)) ?_; intro A7 n7 c7 w7 ho7 hB7 _ hz7; have u7 : n7 = n2 := (by have := ho7.len; have := hbB.len; simp at *; omega); subst u7; have g7 := (G6.below hB7).cell))
      have a7 := ho7.ge
      have k7 := ho7.bs
      have G8 : Blk (w7.setCell ⟨gp, 7, none⟩ (.slice A7 n7 c7)) gp #[.int .u8 (bt l 1), .int .u16 (get16 l 4), .bool k, .int .u8 (bt l 8), .int .u8 (bt l 9), .int .u32 (get32 l 12), .int .u32 (get32 l 16), .slice A7 n7 c7, .slice none 0 0] 26 := by
        have := (G6.below hB7).set_ 7 (.slice A7 n7 c7)
        simp only [List.setIfInBounds_toArray, List.set_cons_zero, List.set_cons_succ] at this
        exact this
      have R8 := (R6.below hB7).far ⟨gp, 7, none⟩ (by simp; omega) (.slice A7 n7 c7)
      have T8 := (below_then T6 hB7).setCell (p := ⟨gp, 7, none⟩) (by simp; omega) (.slice A7 n7 c7)
      have k8 := k7.away ⟨gp, 7, none⟩ (fun a e => by have := a7 a e; simp; omega) (.slice A7 n7 c7)
      have a8 : ∀ a, A7 = some a → gp < a.block := fun a e => by have := a7 a e; omega
      generalize w7.setCell ⟨gp, 7, none⟩ (.slice A7 n7 c7) = w8 at *
      clear g7 fc6 ho7 hB7 k7 a7 G6 R6 T6 gl rl hz7
      refine region_txt 6 (by kernel_rfl) (by kernel_rfl) ?_; (iterate 6 (first | (apply ObsK.skip (by rfl)) | (apply ObsK.v (by rfl); (intro wo hT; (repeat (first | (intro _ _ k; try have hcv := cv k))); (have gc := (G8.below hT).cell); refine Goes.mk ?_; go_simp; first | exact goes_v | exact goes_b (by assumption) | (refine goes_enter ?_; first | fail))) | (apply ObsK.b (by rfl); (intro wo hT; (repeat (first | (intro _ _ k; try have hcv := cv k))); (have gc := (G8.below hT).cell); refine Goes.mk ?_; go_simp; first | exact goes_v | exact goes_b (by assumption) | (refine goes_enter ?_; first | fail))))); refine ObsK.nil ?_; intro wz hBz; simp only [finOn, List.drop_succ_cons, List.drop_zero, List.drop_nil]
      go_simp
      have R9 := R8.below hBz
      have G9 := G8.below hBz
      have T9 := below_then T8 hBz
      have k9 := k8.below hBz
      have gl := G9.lt
      have rl := R9.lt
      have fc9 := G9.cell.2
      clear R8 G8 T8 hBz k8
      go_wp2_with (first
        | (at_builtin; refine wpList_append_bs (w0 := wz) _ rfl _ _ _ rfl wz.heap.size 5 Try.underlying24 info_u8 none 0 0 [] rfl (own_nil _ _ _) A3 n3 c3 _ rfl (hbC.below T9) (Below.refl _ _) (by omega) (by first | exact Nat.le_refl _ | exact Below.size (Below.refl _ _) | omega | (simp <;> omega)) ?_; intro A10 n10 c10 w10 ho10 hB10 _ hz10; have u10 : n10 = n3 := (by have := ho10.len; have := hbC.len; simp at *; omega); subst u10; have g10 := (G9.below hB10).cell; have r10 := (R9.below hB10).cell; (obtain ⟨w11, hw11, S11⟩ := store1 (G9.below hB10) 8 (.slice A10 n10 c10)); have g11 := S11.blk.cell; have R11 := S11.other (by omega) (R9.below hB10); have r11 := R11.cell; (obtain ⟨w12, hw12, S12⟩ := store9 R11 (.int .u8 (bt l 1)) (.int .u16 (get16 l 4)) (.bool k) (.int .u8 (bt l 8)) (.int .u8 (bt l 9)) (.int .u32 (get32 l 12)) (.int .u32 (get32 l 16)) (.slice A7 n7 c7) (.slice A10 n10 c10))))
      have a10 := ho10.ge
      have k10 := ho10.bs
      have T12 := S12.bel (S11.bel (below_then T9 hB10) (by omega)) (Nat.le_refl _)
      have K10 := S12.bs (S11.bs k10 (fun a e => by have := a10 a e; omega)) (fun a e => by have := a10 a e; omega)
      have K9 := S12.bs (S11.bs (k9.below hB10) (fun a e => by have := a8 a e; omega)) (fun a e => by have := a8 a e; omega)
      have pf := S12.blk.cell
      have hR : rdPk false l = rdP l := by unfold rdPk; rw [if_pos HE0.out]
      have e1 : (rdP l).keep = k := HK.out
      have e2 : (rdP l).opt = List.drop 20 (List.take h.toNat l) := by rw [← HH.out]; rfl
      have e3 : (rdP l).dat = List.drop h.toNat (List.take (g).toNat l) := by rw [← HH.out, ← HM.out]; rfl
      refine bodyPost_ret (v := .tuple #[.agg #[.int .u8 (bt l 1), .int .u16 (get16 l 4), .bool k, .int .u8 (bt l 8), .int .u8 (bt l 9), .int .u32 (get32 l 12), .int .u32 (get32 l 16), .slice A7 n7 c7, .slice A10 n10 c10], .int .i64 0]) (by simp [results, Try.results36, go_sem, pf]) rfl
        ⟨A7, n7, c7, A10, n10, c10, by rw [hR, HE0.out, e1]; rfl, by rw [hR, e2]; exact K9, by rw [hR, e3]; exact K10, fun a e => by have := a8 a e; omega, fun a e => by have := a10 a e; omega, T12⟩
theorem rread_any (A : Option Addr) (n c : Nat) (l : List UInt8) (q : Bool) (w : World) (hb : Bs w A n c l) :
    Calls Try.prog 36 #[.slice A n c, .bool q] w (RdPost w q l) := by
  by_cases h : lenE q l = 0
  · exact rread_ok A n c l q w hb h
  · exact rread_len A n c l q w hb h
end Go.Proofs.Ytkjhickjgncheaa

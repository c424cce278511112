import Derived.Test.YtogbncpchmnbdaaIp1
namespace Go.Proofs.Ytogbncpchmnbdaa
open Go.RowKit
set_option linter.unusedVariables false
set_option linter.unusedSimpArgs false
set_option maxHeartbeats 8000000
set_option maxRecDepth 100000

structure PkPost (w0 : World) (q : Bool) (l : List UInt8) (e : Ending) (w' : World) : Prop where
  bel : Below w0.heap.size w0 w'
  ok : rdE q l = 0 → ∃ A1 n1 c1 A2 n2 c2, e = .returned (.agg #[.int .u8 (rdP l).tos, .int .u16 (rdP l).id, .bool (rdP l).keep, .int .u8 (rdP l).ttl, .int .u8 (rdP l).proto, .int .u32 (rdP l).src, .int .u32 (rdP l).dst, .slice A1 n1 c1, .slice A2 n2 c2]) ∧ Bs w' A1 n1 c1 (rdP l).opt ∧ Bs w' A2 n2 c2 (rdP l).dat ∧ (∀ a, A1 = some a → w0.heap.size ≤ a.block) ∧ (∀ a, A2 = some a → w0.heap.size ≤ a.block)
  no : rdE q l ≠ 0 → e = .panicked [{ v := fault (rdE q l), recovered := false }]
theorem pkPost_no {w0 : World} {l : List UInt8} {q : Bool} {w' : World} (x : Int) (hE : rdE q l = x) (hx : x ≠ 0) (hB : Below w0.heap.size w0 w') :
    PkPost w0 q l (.panicked [{ v := fault x, recovered := false }]) w' := ⟨hB, fun h => absurd (hE.symm.trans h) hx, fun _ => by rw [hE]⟩
theorem packet_any (w0 : World) (k : Nat) (A : Option Addr) (n c : Nat) (l : List UInt8) (q : Bool) (w : World) (hb : Bs w0 A n c l) (T : Below w0.heap.size w0 w) (hk : w0.heap.size ≤ k) (K : Blk w k #[.int .i64 0, .int .i64 0, .slice A n c] 92) (le : Int) (hle : le = if q then 8 else 0) :
    Calls Try.prog 69 #[.pointer (some ⟨k, 0, none⟩), .bool q, .int .i64 le] w (PkPost w0 q l) := by
  have hlen := hb.len
  have hmax := hb.max
  have hcap := hb.cap
  obtain ⟨i8, hi8, _, hs8, _⟩ := info_parts info_u8
  have HLE := Lib.hid hle
  have le0 : 0 ≤ le := by rw [hle]; split <;> omega
  have le8 : le ≤ 8 := by rw [hle]; split <;> omega
  clear hle
  go_enter Try.func69, Try.ntmps69
  go_wp2_with fail
  have hkl := K.lt
  have T1 : Below w0.heap.size w0 (w.alloc (.cells #[.int .u8 0, .int .u16 0, .bool false, .int .u8 0, .int .u8 0, .int .u32 0, .int .u32 0, .slice none 0 0, .slice none 0 0] 26)) := T.alloc (by have := T.size; omega) _
  have R1 := blk_new w #[.int .u8 0, .int .u16 0, .bool false, .int .u8 0, .int .u8 0, .int .u32 0, .int .u32 0, .slice none 0 0, .slice none 0 0] 26 _ rfl
  refine (lengths_any w0 k A n c l q _ hb T1 hk (K.alloc _) w.heap.size _ _ (by omega) R1).mono ?_
  intro e w1 hP
  by_cases hE0 : lenE q l = 0
  · obtain ⟨rfl, K1, R2⟩ := hP.ok hE0
    obtain ⟨f1, f2, f3, f4, f5, f6, f7, f8, f9⟩ := len_facts hE0
    have T2 := hP.bel
    clear hP T1 R1
    obtain ⟨b, off, rfl⟩ := hb.some_ (by omega)
    obtain ⟨h, hh⟩ : ∃ h, hdOf l = h := ⟨_, rfl⟩
    obtain ⟨m, hm⟩ : ∃ m, alOf l = m := ⟨_, rfl⟩
    rw [hh] at f3 f4 f5 f7 f8 K1
    rw [hm] at f5 f6 K1
    rw [hlen] at f1 f4 f6
    clear f8 f9 f2
    have hcutA : ∀ W, (Instr.slice 24 (.slice (some ⟨b, off, none⟩) n c) none (some (.int .i64 h)) none).run Try.prog W = _ := fun W => cut_h Try.underlying24 hi8 hs8 (some ⟨b, off, none⟩) n c .i64 h (by omega) (by omega) W
    obtain ⟨A', n', c', eA, en, ec, hbA⟩ := hb.cutE (lo := 0) (hi := h.toNat) (by omega) (by omega)
    simp only [eA, en, ec] at hcutA
    clear eA en ec
    simp only [List.drop_zero] at hbA
    go_wp2_with fail
    refine region_txt 11 (by kernel_rfl) (by kernel_rfl) ?_; (iterate 11 (first | (apply ObsK.skip (by rfl)) | (apply ObsK.v (by rfl); (intro wo hT; (repeat (first | (intro _ _ k; try have hcv := cv k))); (have kc2 := (K1.below hT).cell); refine Goes.mk ?_; go_simp; first | exact goes_v | exact goes_b (by assumption) | (refine goes_enter ?_; first | (go_at_call 49; ((with_reducible refine (good_any A' n' c' (l.take h.toNat) wo ((hbA.below T2).below hT)).mono ?_); rintro e w2 ⟨rfl, hB2⟩); exact ret_v hB2)))) | (apply ObsK.b (by rfl); (intro wo hT; (repeat (first | (intro _ _ k; try have hcv := cv k))); (have kc2 := (K1.below hT).cell); refine Goes.mk ?_; go_simp; first | exact goes_v | exact goes_b (by assumption) | (refine goes_enter ?_; first | (go_at_call 49; ((with_reducible refine (good_any A' n' c' (l.take h.toNat) wo ((hbA.below T2).below hT)).mono ?_); rintro e w2 ⟨rfl, hB2⟩); exact ret_v hB2)))))); refine ObsK.nil ?_; intro wz hBz; simp only [finOn, List.drop_succ_cons, List.drop_zero, List.drop_nil]
    go_simp
    have K3 := K1.below hBz
    have R3 := R2.below hBz
    have T3 := below_then T2 hBz
    clear hBz K1 R2 T2
    go_wp2_with fail
    obtain ⟨s, hs⟩ : ∃ s, csum (l.take h.toNat) = s := ⟨_, rfl⟩
    rw [hs]
    by_cases h5 : s = 0
    · rw [show (s == 0) = true from by simpa using h5]
      refine (may_yes _ _).mono ?_
      rintro e w' ⟨rfl, rfl⟩
      obtain ⟨f, hf⟩ : ∃ f, get16 l 6 = f := ⟨_, rfl⟩
      have g0 : 0 ≤ f := by rw [← hf]; exact get16_lo l 6
      have g1 : f ≤ 65535 := by rw [← hf]; exact get16_hi l 6
      have ha1 := and_u16_low g0 g1
      have ha2 := and_u16_top g0 g1
      have kc3 := K3.cell
      go_wp2_with (go_at_call 54; ((with_reducible refine (get16_any (some ⟨b, off, none⟩) n c l 6 _ (hb.below T3)).mono ?_); rintro e w4 ⟨rfl, hD⟩); have K4 := K3.below hD.bel; have T4 := below_then T3 hD.bel; have R4 := R3.below hD.bel)
      clear kc3
      by_cases h6 : f % 16384 = 0
      · rw [show (f % 16384 == 0) = true from by simpa using h6]
        refine (may_yes _ _).mono ?_
        rintro e w' ⟨rfl, rfl⟩
        go_wp2_with fail
        by_cases h7 : 32768 ≤ f
        · rw [show (f / 32768 * 32768 == 0) = false from by simp; omega]
          refine (may_no _ _).mono ?_
          rintro e w' ⟨rfl, rfl⟩
          exact ⟨rfl, pkPost_no 4 (by unfold rdE; rw [if_neg (by omega), hh, if_neg (by rw [hs]; omega), hf, if_neg (by omega), if_pos h7]) (by omega) T4⟩
        · rw [show (f / 32768 * 32768 == 0) = true from by simp; omega]
          refine (may_yes _ _).mono ?_
          rintro e w' ⟨rfl, rfl⟩
          go_wp2_with fail
          refine region_txt 13 (by kernel_rfl) (by kernel_rfl) ?_; (iterate 13 (first | (apply ObsK.skip (by rfl)) | (apply ObsK.v (by rfl); (intro wo hT; (repeat (first | (intro _ _ k; try have hcv := cv k))); (have kc2 := (K4.below hT).cell); refine Goes.mk ?_; go_simp; first | exact goes_v | exact goes_b (by assumption) | (refine goes_enter ?_; first | fail))) | (apply ObsK.b (by rfl); (intro wo hT; (repeat (first | (intro _ _ k; try have hcv := cv k))); (have kc2 := (K4.below hT).cell); refine Goes.mk ?_; go_simp; first | exact goes_v | exact goes_b (by assumption) | (refine goes_enter ?_; first | fail))))); refine ObsK.nil ?_; intro wz hBz; simp only [finOn, List.drop_succ_cons, List.drop_zero, List.drop_nil]
          go_simp
          have K5 := K4.below hBz
          have R5 := R4.below hBz
          have T5 := below_then T4 hBz
          clear hBz K4 R4 T4 hD
          go_wp2_with fail
          by_cases h8 : le ≤ m - h
          · rw [decide_eq_true h8]
            refine (may_yes _ _).mono ?_
            rintro e w' ⟨rfl, rfl⟩
            have hE : rdE q l = 0 := by
              unfold rdE
              rw [if_neg (by omega), hh, if_neg (by rw [hs]; omega), hf, if_neg (by omega), if_neg (by omega), hm]
              rw [if_neg]
              rintro ⟨rfl, hx⟩
              have := HLE.out
              simp at this
              omega
            have HE := Lib.hid hE
            clear hE
            have hcutB : ∀ W, (Instr.slice 24 (.slice (some ⟨b, off, none⟩) n c) (some (.int .i64 20)) (some (.int .i64 h)) none).run Try.prog W = _ := fun W => cut_lh Try.underlying24 hi8 hs8 (some ⟨b, off, none⟩) n c .i64 .i64 20 h (by omega) (by omega) (by omega) W
            obtain ⟨A2, n2, c2, eA, en, ec, hbB⟩ := hb.cutE (lo := 20) (hi := h.toNat) (by omega) (by omega)
            simp only [show (20 : Int).toNat = 20 from rfl, eA, en, ec] at hcutB
            clear eA en ec
            have hcutC : ∀ W, (Instr.slice 24 (.slice (some ⟨b, off, none⟩) n c) (some (.int .i64 h)) (some (.int .i64 m)) none).run Try.prog W = _ := fun W => cut_lh Try.underlying24 hi8 hs8 (some ⟨b, off, none⟩) n c .i64 .i64 h m (by omega) (by omega) (by omega) W
            obtain ⟨A3, n3, c3, eA, en, ec, hbC⟩ := hb.cutE (lo := h.toNat) (hi := m.toNat) (by omega) (by omega)
            simp only [eA, en, ec] at hcutC
            clear eA en ec
            have HF := Lib.hid hf
            have HH := Lib.hid hh
            have HM := Lib.hid hm
            have x1 : (1 : Int) < n := by omega
            have x8 : (8 : Int) < n := by omega
            have x9 : (9 : Int) < n := by omega
            clear hf hh hm ha1 ha2 hs h5 h6 h7 hcutA
            go_wp2_with fail
            refine region_txt 62 (by kernel_rfl) (by kernel_rfl) ?_; (iterate 62 (first | (apply ObsK.skip (by rfl)) | (apply ObsK.v (by rfl); (intro wo hT; (repeat (first | (intro v hv; ((skip))) | (intro _ _ k; try have hcv := cv k))); (have kc2 := (K5.below hT).cell; have bo := (hb.below T5).below hT; have b1 := bo.at_ (j := 1) (by omega); have b8 := bo.at_ (j := 8) (by omega); have b9 := bo.at_ (j := 9) (by omega); have rl := (R5.below hT).lt); refine Goes.mk ?_; go_simp; first | exact goes_v | exact goes_b (by assumption) | (refine goes_enter ?_; first | (go_at_call 54; ((with_reducible refine (get16_any (some ⟨b, off, none⟩) n c l 4 wo bo).mono ?_); rintro e w2 ⟨rfl, hD2⟩); exact ret_v hD2.bel) | (go_at_call 50; ((with_reducible refine (get32_any (some ⟨b, off, none⟩) n c l 12 wo bo).mono ?_); rintro e w2 ⟨rfl, hD2⟩); exact ret_v hD2.bel) | (go_at_call 50; ((with_reducible refine (get32_any (some ⟨b, off, none⟩) n c l 16 wo bo).mono ?_); rintro e w2 ⟨rfl, hD2⟩); exact ret_v hD2.bel) | (go_at_call 51; ((with_reducible refine (clone_any A2 n2 c2 _ wo ((hbB.below T5).below hT)).mono ?_); rintro e w2 ⟨A9, c9, rfl, ho9, hB9⟩); exact ret_p (own_isF ho9 rl) hB9) | (go_at_call 51; ((with_reducible refine (clone_any A3 n3 c3 _ wo ((hbC.below T5).below hT)).mono ?_); rintro e w2 ⟨A9, c9, rfl, ho9, hB9⟩); exact ret_p (own_isF ho9 rl) hB9)))) | (apply ObsK.b (by rfl); (intro wo hT; (repeat (first | (intro v hv; ((skip))) | (intro _ _ k; try have hcv := cv k))); (have kc2 := (K5.below hT).cell; have bo := (hb.below T5).below hT; have b1 := bo.at_ (j := 1) (by omega); have b8 := bo.at_ (j := 8) (by omega); have b9 := bo.at_ (j := 9) (by omega); have rl := (R5.below hT).lt); refine Goes.mk ?_; go_simp; first | exact goes_v | exact goes_b (by assumption) | (refine goes_enter ?_; first | (go_at_call 54; ((with_reducible refine (get16_any (some ⟨b, off, none⟩) n c l 4 wo bo).mono ?_); rintro e w2 ⟨rfl, hD2⟩); exact ret_v hD2.bel) | (go_at_call 50; ((with_reducible refine (get32_any (some ⟨b, off, none⟩) n c l 12 wo bo).mono ?_); rintro e w2 ⟨rfl, hD2⟩); exact ret_v hD2.bel) | (go_at_call 50; ((with_reducible refine (get32_any (some ⟨b, off, none⟩) n c l 16 wo bo).mono ?_); rintro e w2 ⟨rfl, hD2⟩); exact ret_v hD2.bel) | (go_at_call 51; ((with_reducible refine (clone_any A2 n2 c2 _ wo ((hbB.below T5).below hT)).mono ?_); rintro e w2 ⟨A9, c9, rfl, ho9, hB9⟩); exact ret_p (own_isF ho9 rl) hB9) | (go_at_call 51; ((with_reducible refine (clone_any A3 n3 c3 _ wo ((hbC.below T5).below hT)).mono ?_); rintro e w2 ⟨A9, c9, rfl, ho9, hB9⟩); exact ret_p (own_isF ho9 rl) hB9)))) | (apply ObsK.p (q := isF w.heap.size _ _) (by rfl) st_isF; (intro wo hT; (repeat (first | (intro v hv; ((skip))) | (intro _ _ k; try have hcv := cv k))); (have kc2 := (K5.below hT).cell; have bo := (hb.below T5).below hT; have b1 := bo.at_ (j := 1) (by omega); have b8 := bo.at_ (j := 8) (by omega); have b9 := bo.at_ (j := 9) (by omega); have rl := (R5.below hT).lt); refine Goes.mk ?_; go_simp; first | exact goes_v | exact goes_b (by assumption) | (refine goes_enter ?_; first | (go_at_call 54; ((with_reducible refine (get16_any (some ⟨b, off, none⟩) n c l 4 wo bo).mono ?_); rintro e w2 ⟨rfl, hD2⟩); exact ret_v hD2.bel) | (go_at_call 50; ((with_reducible refine (get32_any (some ⟨b, off, none⟩) n c l 12 wo bo).mono ?_); rintro e w2 ⟨rfl, hD2⟩); exact ret_v hD2.bel) | (go_at_call 50; ((with_reducible refine (get32_any (some ⟨b, off, none⟩) n c l 16 wo bo).mono ?_); rintro e w2 ⟨rfl, hD2⟩); exact ret_v hD2.bel) | (go_at_call 51; ((with_reducible refine (clone_any A2 n2 c2 _ wo ((hbB.below T5).below hT)).mono ?_); rintro e w2 ⟨A9, c9, rfl, ho9, hB9⟩); exact ret_p (own_isF ho9 rl) hB9) | (go_at_call 51; ((with_reducible refine (clone_any A3 n3 c3 _ wo ((hbC.below T5).below hT)).mono ?_); rintro e w2 ⟨A9, c9, rfl, ho9, hB9⟩); exact ret_p (own_isF ho9 rl) hB9)))))); refine ObsK.nil ?_; intro wz hBz; simp only [finOn, List.drop_succ_cons, List.drop_zero, List.drop_nil]
            intro v9 hv9 v10 hv10
            obtain ⟨A9, c9, rfl, k9, a9⟩ := hv9
            obtain ⟨A10, c10, rfl, k10, a10⟩ := hv10
            go_simp
            have R6 := R5.below hBz
            have rc := R6.cell
            have T6 := below_then T5 hBz
            have hwr : w0.heap.size ≤ w.heap.size := T.size
            go_wp2_with fail
            obtain ⟨wf, hwf, S⟩ := store9 R6 (.int .u8 (bt l 1)) (.int .u16 (get16 l 4)) (.bool (f != 0)) (.int .u8 (bt l 8)) (.int .u8 (bt l 9)) (.int .u32 (get32 l 12)) (.int .u32 (get32 l 16)) (.slice A10 n2 c10) (.slice A9 n3 c9)
            rw [hwf]
            have TF := S.bel T6 hwr
            have k9' := S.bs k9 (gt_ne a9)
            have k10' := S.bs k10 (gt_ne a10)
            have kr := S.blk.cell
            clear hwf S R6 rc T6 k9 k10
            have e1 : f = get16 l 6 := HF.out.symm
            have e2 : (rdP l).opt = List.drop 20 (List.take h.toNat l) := by rw [← HH.out]; rfl
            have e3 : (rdP l).dat = List.drop h.toNat (List.take m.toNat l) := by rw [← HH.out, ← HM.out]; rfl
            refine bodyPost_ret (v := .agg #[.int .u8 (bt l 1), .int .u16 (get16 l 4), .bool (f != 0), .int .u8 (bt l 8), .int .u8 (bt l 9), .int .u32 (get32 l 12), .int .u32 (get32 l 16), .slice A10 n2 c10, .slice A9 n3 c9]) (by simp [results, Try.results69, go_sem, kr]) rfl ⟨TF, fun _ => ⟨A10, n2, c10, A9, n3, c9, by rw [e1]; rfl, by rw [e2]; exact k10', by rw [e3]; exact k9', fun a e => by have := a10 a e; omega, fun a e => by have := a9 a e; omega⟩, fun hx => absurd HE.out hx⟩
          · rw [decide_eq_false h8]
            refine (may_no _ _).mono ?_
            rintro e w' ⟨rfl, rfl⟩
            have hq : q = true := by
              cases q with
              | true => rfl
              | false => have := HLE.out; simp at this; omega
            have hl8 : le = 8 := by rw [HLE.out, if_pos hq]
            exact ⟨rfl, pkPost_no 3 (by unfold rdE; rw [if_neg (by omega), hh, if_neg (by rw [hs]; omega), hf, if_neg (by omega), if_neg (by omega), hm, if_pos ⟨hq, by omega⟩]) (by omega) T5⟩
      · rw [show (f % 16384 == 0) = false from by simpa using h6]
        refine (may_no _ _).mono ?_
        rintro e w' ⟨rfl, rfl⟩
        exact ⟨rfl, pkPost_no 7 (by unfold rdE; rw [if_neg (by omega), hh, if_neg (by rw [hs]; omega), hf, if_pos h6]) (by omega) T4⟩
    · rw [show (s == 0) = false from by simpa using h5]
      refine (may_no _ _).mono ?_
      rintro e w' ⟨rfl, rfl⟩
      exact ⟨rfl, pkPost_no 5 (by unfold rdE; rw [if_neg (by omega), hh, if_pos (by rw [hs]; exact h5)]) (by omega) T3⟩
  · have hx := hP.no hE0
    subst hx
    exact ⟨rfl, pkPost_no (lenE q l) (by unfold rdE; rw [if_pos hE0]) hE0 hP.bel⟩
end Go.Proofs.Ytogbncpchmnbdaa

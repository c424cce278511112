import Derived.Test.YtkiiaaadcfaojaaPptpMath
import Derived.Test.YtkiiaaadcfaojaaSmall
namespace Go.Proofs.Ytkiiaaadcfaojaa
open Go.RowKit Go.MapKept
set_option linter.unusedVariables false
set_option linter.unusedSimpArgs false
set_option maxHeartbeats 1000000
set_option maxRecDepth 100000

theorem pC_bd (l : List UInt8) : 0 ≤ pC l ∧ pC l ≤ 65535 := by
  unfold pC atP
  repeat' split
  all_goals first | omega | exact ⟨get16_lo _ _, get16_hi _ _⟩
theorem pP_bd (l : List UInt8) : 0 ≤ pP l ∧ pP l ≤ 65535 := by
  unfold pP atP
  repeat' split
  all_goals first | omega | exact ⟨get16_lo _ _, get16_hi _ _⟩
theorem pptpSelf_walk (w : World) (A : Option Addr) (n c : Nat) (l : List UInt8) (hb : Bs w A n c l) :
    Calls Try.prog 9 #[.slice A n c] w fun e w' => e = .returned (.bool true) ∧ Below w.heap.size w w' := by
  by_cases h : pE l = 0
  · have e2 : (pE l != 0) = false := by simp [h]
    obtain ⟨c0, c1⟩ := pC_bd l
    obtain ⟨p0, p1⟩ := pP_bd l
    clear h
    go_enter Try.func9, Try.ntmps9
    go_wp2_with (go_at_call 10; ((with_reducible refine (parse_v A n c l w hb).mono ?_); rintro e w1 ⟨rfl, hB1⟩); have b1 := hb.below hB1)
    refine region_txt 22 (by kernel_rfl) (by kernel_rfl) ?_; (iterate 22 (first | (apply ObsK.skip (by rfl)) | (apply ObsK.v (by rfl); (intro wo hT; (repeat (first | (intro _ _ k; try have hcv := cv k))); (have kb := (b1.alloc _).below hT; have cb := cv kb; have mm := ((blk_new w1 _ _ _ rfl).below hT).cell); refine Goes.mk ?_; go_simp; first | exact goes_v | exact goes_b (by assumption) | (refine goes_enter ?_; first | (go_at_call 12; ((with_reducible refine (live15_any wo).mono ?_); rintro e w2 ⟨rfl, hB2⟩); exact ret_v hB2) | (go_at_call 15; ((with_reducible refine (withCall_any A n c l (pC l) c0 c1 wo kb).mono ?_); rintro e w2 ⟨A2, c2, rfl, ho2, hB2⟩); have k2 := ho2.bs; rw [wAt_self_c] at k2; exact ret_b k2 hB2) | (go_at_call 17; ((with_reducible refine (withPeer_any A n c l (pP l) p0 p1 wo kb).mono ?_); rintro e w2 ⟨A2, c2, rfl, ho2, hB2⟩); have k2 := ho2.bs; rw [wAt_self_p] at k2; exact ret_b k2 hB2)))) | (apply ObsK.b (by rfl); (intro wo hT; (repeat (first | (intro _ _ k; try have hcv := cv k))); (have kb := (b1.alloc _).below hT; have cb := cv kb; have mm := ((blk_new w1 _ _ _ rfl).below hT).cell); refine Goes.mk ?_; go_simp; first | exact goes_v | exact goes_b (by assumption) | (refine goes_enter ?_; first | (go_at_call 12; ((with_reducible refine (live15_any wo).mono ?_); rintro e w2 ⟨rfl, hB2⟩); exact ret_v hB2) | (go_at_call 15; ((with_reducible refine (withCall_any A n c l (pC l) c0 c1 wo kb).mono ?_); rintro e w2 ⟨A2, c2, rfl, ho2, hB2⟩); have k2 := ho2.bs; rw [wAt_self_c] at k2; exact ret_b k2 hB2) | (go_at_call 17; ((with_reducible refine (withPeer_any A n c l (pP l) p0 p1 wo kb).mono ?_); rintro e w2 ⟨A2, c2, rfl, ho2, hB2⟩); have k2 := ho2.bs; rw [wAt_self_p] at k2; exact ret_b k2 hB2)))))); refine ObsK.nil ?_; intro wz hBz; simp only [finOn, List.drop_succ_cons, List.drop_zero, List.drop_nil]
    intros; go_simp
    go_wp2_with fail
    go_ret
    exact ⟨rfl, below_then (below_alloc hB1 (Nat.le_refl _) _) hBz⟩
  · have e2 : (pE l != 0) = true := by simpa using h
    obtain ⟨h1, h2, h3, h4⟩ := pT_bad h
    clear h
    go_enter Try.func9, Try.ntmps9
    go_wp2_with (first
      | (go_at_call 10; ((with_reducible refine (parse_v A n c l w hb).mono ?_); rintro e w1 ⟨rfl, hB1⟩); have b1 := hb.below hB1)
      | (go_at_call 12; ((with_reducible refine (live15_any _).mono ?_); rintro e w2 ⟨rfl, hB2⟩); have mm := ((blk_new w1 _ _ _ rfl).below hB2).cell))
    go_ret
    exact ⟨rfl, below_then (below_alloc hB1 (Nat.le_refl _) _) hB2⟩
theorem pptpClear_walk (w : World) (x : Int) (x0 : 0 ≤ x) (x1 : x ≤ 65535) (y : Int) (y0 : 0 ≤ y) (y1 : y ≤ 65535) :
    Calls Try.prog 6 #[.int .u16 x, .int .u16 y] w fun e w' => e = .returned (.bool true) ∧ Below w.heap.size w w' := by
  have e1 := clear_E x
  have e2 := clear_T x
  have e3 := clear_C x0 x1
  have e4 := clear_P x
  have e5 := clear_R x
  go_enter Try.func6, Try.ntmps6
  go_wp2_with (first
    | (go_at_call 14; ((with_reducible refine (clearOf_any x x0 x1 _).mono ?_); rintro e w1 ⟨A1, c1, rfl, hb1, hB1⟩))
    | (go_at_call 10; ((with_reducible refine (parse_v A1 16 c1 (clearL x) w1 hb1).mono ?_); rintro e w2 ⟨rfl, hB2⟩); have T2 := below_then hB1 hB2))
  refine region_txt 23 (by kernel_rfl) (by kernel_rfl) ?_; (iterate 23 (first | (apply ObsK.skip (by rfl)) | (apply ObsK.v (by rfl); (intro wo hT; (repeat (first | (intro _ _ k; try have hcv := cv k))); (have mm := ((blk_new w2 _ _ _ rfl).below hT).cell); refine Goes.mk ?_; go_simp; first | exact goes_v | exact goes_b (by assumption) | (refine goes_enter ?_; first | (go_at_call 12; ((with_reducible refine (live15_any wo).mono ?_); rintro e w3 ⟨rfl, hB3⟩); exact ret_v hB3) | (go_at_call 14; ((with_reducible refine (clearOf_any x x0 x1 wo).mono ?_); rintro e w3 ⟨A3, c3, rfl, hb3, hB3⟩); exact ret_b hb3 hB3) | (go_at_call 14; ((with_reducible refine (clearOf_any y y0 y1 wo).mono ?_); rintro e w3 ⟨A3, c3, rfl, hb3, hB3⟩); exact ret_b hb3 hB3) | (go_at_call 15; ((with_reducible refine (withCall_any _ 16 _ (clearL x) y y0 y1 wo (by assumption)).mono ?_); rintro e w3 ⟨A3, c3, rfl, ho3, hB3⟩); have k3 := ho3.bs; rw [clear_put] at k3; exact ret_b k3 hB3)))) | (apply ObsK.b (by rfl); (intro wo hT; (repeat (first | (intro _ _ k; try have hcv := cv k))); (have mm := ((blk_new w2 _ _ _ rfl).below hT).cell); refine Goes.mk ?_; go_simp; first | exact goes_v | exact goes_b (by assumption) | (refine goes_enter ?_; first | (go_at_call 12; ((with_reducible refine (live15_any wo).mono ?_); rintro e w3 ⟨rfl, hB3⟩); exact ret_v hB3) | (go_at_call 14; ((with_reducible refine (clearOf_any x x0 x1 wo).mono ?_); rintro e w3 ⟨A3, c3, rfl, hb3, hB3⟩); exact ret_b hb3 hB3) | (go_at_call 14; ((with_reducible refine (clearOf_any y y0 y1 wo).mono ?_); rintro e w3 ⟨A3, c3, rfl, hb3, hB3⟩); exact ret_b hb3 hB3) | (go_at_call 15; ((with_reducible refine (withCall_any _ 16 _ (clearL x) y y0 y1 wo (by assumption)).mono ?_); rintro e w3 ⟨A3, c3, rfl, ho3, hB3⟩); have k3 := ho3.bs; rw [clear_put] at k3; exact ret_b k3 hB3)))))); refine ObsK.nil ?_; intro wz hBz; simp only [finOn, List.drop_succ_cons, List.drop_zero, List.drop_nil]
  intros; go_simp
  go_wp2_with fail
  go_ret
  exact ⟨rfl, below_then (below_alloc T2 (Nat.le_refl _) _) hBz⟩
theorem pptpChanges_walk (w : World) (A : Option Addr) (n c : Nat) (l : List UInt8) (hb : Bs w A n c l) (v : Int) (v0 : 0 ≤ v) (v1 : v ≤ 65535) (t : Int) (t0 : -9223372036854775808 ≤ t) (t1 : t ≤ 9223372036854775807) :
    Calls Try.prog 7 #[.slice A n c, .int .u16 v, .int .i64 t] w fun e w' => e = .returned (.bool true) ∧ Below w.heap.size w w' := by
  have hmax := hb.max
  have hl : (cu []).toArray = #[] := rfl
  clear t0 t1
  go_enter Try.func7, Try.ntmps7
  go_wp2_with (at_builtin; go_loud (refine wpList_append_bs (w0 := w) _ rfl _ _ _ rfl w.heap.size 5 Try.underlying22 info_u8 (some ⟨_, 0, none⟩) 0 0 [] rfl (own_litk _ _ (by simp) w.heap.size 5 [] 0 rfl (by omega) (by omega)) A n c l rfl (hb.alloc _) (by (repeat (first | with_reducible exact Below.refl _ _ | with_reducible refine below_drew ?_ | with_reducible refine below_drewN ?_ _ | with_reducible refine below_alloc ?_ (Nat.le_refl _) _ | with_reducible refine Below.setCell ?_ (by first | exact Nat.le_refl _ | (simp only []; omega)) _ | with_reducible assumption))) (by omega) (by first | exact Nat.le_refl _ | omega | (simp <;> omega)) ?_); intro A3 n3 c3 w3 ho3 hB3 _ hz3; have u3 : n3 = n := (by have := ho3.len; have := hb.len; simp at *; omega); subst u3; have k3 : Bs w3 A3 n3 c3 l := ho3.bs; have b3 := hb.below hB3)
  refine region_txt 38 (by kernel_rfl) (by kernel_rfl) ?_; (iterate 38 (first | (apply ObsK.skip (by rfl)) | (apply ObsK.v (by rfl); (intro wo hT; (repeat (first | (intro _ _ k; try have hcv := cv k))); (have ka := k3.below hT; have kb := b3.below hT; have ca := cv ka; have cb := cv kb); refine Goes.mk ?_; go_simp; first | exact goes_v | exact goes_b (by assumption) | (refine goes_enter ?_; first | (go_at_call 12; ((with_reducible refine (live15_any wo).mono ?_); rintro e w2 ⟨rfl, hB2⟩); exact ret_v hB2) | (go_at_call 15; ((with_reducible refine (withCall_any A3 n3 c3 l v v0 v1 wo ka).mono ?_); rintro e w2 ⟨A2, c2, rfl, ho2, hB2⟩); exact ret_b ho2.bs hB2) | (go_at_call 16; ((with_reducible refine (rwithCall_any A n3 c l v v0 v1 wo kb).mono ?_); rintro e w2 ⟨A2, c2, rfl, ho2, hB2⟩); exact ret_b ho2.bs hB2) | (go_at_call 17; ((with_reducible refine (withPeer_any A3 n3 c3 l v v0 v1 wo ka).mono ?_); rintro e w2 ⟨A2, c2, rfl, ho2, hB2⟩); exact ret_b ho2.bs hB2) | (go_at_call 18; ((with_reducible refine (rwithPeer_any A n3 c l v v0 v1 wo kb).mono ?_); rintro e w2 ⟨A2, c2, rfl, ho2, hB2⟩); exact ret_b ho2.bs hB2) | (go_at_call 13; ((with_reducible refine (size_any t wo).mono ?_); rintro e w2 ⟨rfl, hB2⟩); exact ret_v hB2) | (go_at_call 19; ((with_reducible refine (rsize_any t wo).mono ?_); rintro e w2 ⟨rfl, rfl⟩); exact ret_v (Below.refl _ _))))) | (apply ObsK.b (by rfl); (intro wo hT; (repeat (first | (intro _ _ k; try have hcv := cv k))); (have ka := k3.below hT; have kb := b3.below hT; have ca := cv ka; have cb := cv kb); refine Goes.mk ?_; go_simp; first | exact goes_v | exact goes_b (by assumption) | (refine goes_enter ?_; first | (go_at_call 12; ((with_reducible refine (live15_any wo).mono ?_); rintro e w2 ⟨rfl, hB2⟩); exact ret_v hB2) | (go_at_call 15; ((with_reducible refine (withCall_any A3 n3 c3 l v v0 v1 wo ka).mono ?_); rintro e w2 ⟨A2, c2, rfl, ho2, hB2⟩); exact ret_b ho2.bs hB2) | (go_at_call 16; ((with_reducible refine (rwithCall_any A n3 c l v v0 v1 wo kb).mono ?_); rintro e w2 ⟨A2, c2, rfl, ho2, hB2⟩); exact ret_b ho2.bs hB2) | (go_at_call 17; ((with_reducible refine (withPeer_any A3 n3 c3 l v v0 v1 wo ka).mono ?_); rintro e w2 ⟨A2, c2, rfl, ho2, hB2⟩); exact ret_b ho2.bs hB2) | (go_at_call 18; ((with_reducible refine (rwithPeer_any A n3 c l v v0 v1 wo kb).mono ?_); rintro e w2 ⟨A2, c2, rfl, ho2, hB2⟩); exact ret_b ho2.bs hB2) | (go_at_call 13; ((with_reducible refine (size_any t wo).mono ?_); rintro e w2 ⟨rfl, hB2⟩); exact ret_v hB2) | (go_at_call 19; ((with_reducible refine (rsize_any t wo).mono ?_); rintro e w2 ⟨rfl, rfl⟩); exact ret_v (Below.refl _ _))))))); refine ObsK.nil ?_; intro wz hBz; simp only [finOn, List.drop_succ_cons, List.drop_zero, List.drop_nil]
  intros; go_simp
  go_wp2_with fail
  go_ret
  exact ⟨rfl, below_then hB3 hBz⟩
theorem pptpSizes_walk (w : World) (A : Option Addr) (n c : Nat) (l : List UInt8) (hb : Bs w A n c l) :
    Calls Try.prog 4 #[.slice A n c] w fun e w' => e = .returned (.bool true) ∧ Below w.heap.size w w' := by
  have hmax := hb.max
  have hcap := hb.cap
  have hlen := hb.len
  by_cases h : pE l = 0
  · have e2 : (pE l != 0) = false := by simp [h]
    have e3 := pE_cut h
    have e4 := pE_more h 0
    obtain ⟨-, hs, -, hn, -, hx⟩ := pE_sz h
    rw [hlen] at hs e3 hn hx
    obtain ⟨s, hsz⟩ : ∃ s, szT (pT l) = s := ⟨_, rfl⟩
    rw [hsz] at hs
    have e5 : (s == (n : Int)) = true := by simpa using hs
    obtain ⟨i8, hi8, _, hs8, _⟩ := info_parts info_u8
    have j1 : wrap64 ((n : Int) - 1) = (n : Int) - 1 := by unfold wrap64; omega
    have hcut : ∀ W, (Instr.slice 22 (.slice A n c) none (some (.int .i64 ((n : Int) - 1))) none).run Try.prog W = _ := fun W => cut_h Try.underlying22 hi8 hs8 A n c .i64 ((n : Int) - 1) (by omega) (by omega) W
    obtain ⟨A', n', c', eA, en, ec, hb2⟩ := hb.cutE (lo := 0) (hi := n - 1) (by omega) (by omega)
    simp only [show ((n : Int) - 1).toNat = n - 1 from by omega, eA, en, ec] at hcut
    have en' : n' = n - 1 := by omega
    simp only [List.drop_zero] at hb2
    have HL := Lib.hid hsz
    have hl0 : (cu []).toArray = #[] := rfl
    have hl1 : (cu [0]).toArray = #[.int .u8 0] := rfl
    have hE1 : ∀ m, (l ++ [0]).length = m → m = n + 1 := fun m hm => by simp at hm; omega
    clear eA en ec h hs hn hsz en' hlen
    have hS : Hid (∀ W, Calls Try.prog 13 #[.int .i64 (pT l)] W fun e w' => e = .returned (.int .i64 s) ∧ Below W.heap.size W w') := fun W => by rw [← HL.out]; exact size_any (pT l) W
    go_enter Try.func4, Try.ntmps4
    go_wp2_with (first
      | (go_at_call 10; ((with_reducible refine (parse_v A n c l w hb).mono ?_); rintro e w1 ⟨rfl, hB1⟩); have b1 := hb.below hB1; have z1 : w.heap.size ≤ w1.heap.size := hB1.size)
      | (go_at_call 10; ((with_reducible refine (parse_v A' n' c' _ _ ((hb2.below hB1).alloc _)).mono ?_); rintro e w2 ⟨rfl, hB2⟩); have b2 := (b1.alloc _).below hB2; have m2 := (blk_new w1 _ _ _ rfl).below hB2; have T2 := below_then (below_alloc hB1 (Nat.le_refl _) _) hB2; have z2 : w.heap.size ≤ w2.heap.size := T2.size)
      | (at_builtin; go_loud (refine wpList_append_bs (w0 := w2) _ rfl _ _ _ rfl w2.heap.size 5 Try.underlying22 info_u8 (some ⟨_, 0, none⟩) 0 0 [] rfl (own_litk _ _ (by simp) w2.heap.size 5 [] 0 rfl (by omega) (by omega)) A n c l rfl ((b2.alloc _).alloc _) (by (repeat (first | with_reducible exact Below.refl _ _ | with_reducible refine below_drew ?_ | with_reducible refine below_drewN ?_ _ | with_reducible refine below_alloc ?_ (Nat.le_refl _) _ | with_reducible refine Below.setCell ?_ (by first | exact Nat.le_refl _ | (simp only []; omega)) _ | with_reducible assumption))) (by omega) (by first | exact Nat.le_refl _ | omega | (simp <;> omega)) ?_); intro A3 n3 c3 w3 ho3 hB3 _ hz3; have u3 : n3 = n := (by have := ho3.len; have := hb.len; simp at *; omega); subst u3; replace ho3 : Own w3 w2.heap.size 5 A3 n3 c3 l := ho3)
      | (at_builtin; go_loud (refine wpList_append_bs (w0 := w2) _ rfl _ _ _ rfl w2.heap.size 5 Try.underlying22 info_u8 A3 n3 c3 l rfl (ho3.alloc _) (some ⟨_, 0, none⟩) 1 1 [0] rfl (bs_litk [0] 1 (by simp) rfl (by omega)) (by (repeat (first | with_reducible exact Below.refl _ _ | with_reducible refine below_drew ?_ | with_reducible refine below_drewN ?_ _ | with_reducible refine below_alloc ?_ (Nat.le_refl _) _ | with_reducible refine Below.setCell ?_ (by first | exact Nat.le_refl _ | (simp only []; omega)) _ | with_reducible assumption))) (by omega) (by first | exact Nat.le_refl _ | omega | (simp <;> omega)) ?_); intro A4 n4 c4 w4 ho4 hB4 _ hz4; have u4 : n4 = n3 + 1 := (by have := ho4.len; have := hb.len; simp at *; omega); subst u4; have m4 := m2.below hB4; have T4 := below_then T2 hB4)
      | (go_at_call 10; ((with_reducible refine (parse_v A4 _ c4 _ w4 ho4.bs).mono ?_); rintro e w5 ⟨rfl, hB5⟩); have m5 := m4.below hB5; have T5 := below_then T4 hB5)
      | (go_at_call 12; ((with_reducible refine (live15_any _).mono ?_); rintro e w6 ⟨rfl, hB6⟩); have m6 := ((m5.alloc _).below hB6).cell; have T6 := below_then (below_alloc T5 (Nat.le_refl _) _) hB6)
      | (go_at_call 13; ((with_reducible refine (hS.out _).mono ?_); rintro e w7 ⟨rfl, hB7⟩); have T7 := below_then T6 hB7))
    go_ret
    exact ⟨rfl, T7⟩
  · have e2 : (pE l != 0) = true := by simpa using h
    clear h
    go_enter Try.func4, Try.ntmps4
    go_wp2_with (first
      | (go_at_call 10; ((with_reducible refine (parse_v A n c l w hb).mono ?_); rintro e w1 ⟨rfl, hB1⟩))
      | (go_at_call 12; ((with_reducible refine (live15_any _).mono ?_); rintro e w2 ⟨rfl, hB2⟩)))
    go_ret
    exact ⟨rfl, below_then (below_alloc hB1 (Nat.le_refl _) _) hB2⟩
end Go.Proofs.Ytkiiaaadcfaojaa

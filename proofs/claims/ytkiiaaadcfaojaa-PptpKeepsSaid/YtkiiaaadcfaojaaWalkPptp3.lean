import Derived.Test.YtkiiaaadcfaojaaPptpMath
import Derived.Test.YtkiiaaadcfaojaaSmall
import Derived.BigQuiet
import Derived.Deep.CutRange
namespace Go.Proofs.Ytkiiaaadcfaojaa
open Go.RowKit Go.MapKept
set_option linter.unusedVariables false
set_option maxHeartbeats 4000000
set_option maxRecDepth 100000

theorem differ_any (A : Option Addr) (n c : Nat) (l : List UInt8) (A2 : Option Addr) (c2 : Nat) (l2 : List UInt8) (w : World) (hb : Bs w A n c l) (hb2 : Bs w A2 n c2 l2) :
    Calls Try.prog 20 #[.slice A n c, .slice A2 n c2] w fun e w' => e = .returned (.int .i64 (difK l l2 n)) ∧ Drawn w w' := by
  have hmax := hb.max
  go_enter Try.func20, Try.ntmps20
  go_wp2_with fail
  go_loopw [5, 6] (fun x i wr => ∃ j : Nat, j ≤ n ∧ i = .int .i64 j ∧ x = .int .i64 (difK l l2 j) ∧ Drawn w wr) (fun _ i _ => n - (intOf i).toNat)
  case atStart => exact ⟨0, by omega, rfl, rfl, Drawn.refl _⟩
  case round =>
    obtain ⟨j, hj, rfl, rfl, hD⟩ := hrel
    by_cases hlt : j < n
    · obtain ⟨g, o, hA, hc⟩ := (hb.below hD.bel).rd (by omega)
      obtain ⟨g', o', hA', hc'⟩ := (hb2.below hD.bel).rd (by omega)
      subst hA hA'
      have i0 : (0 : Int) ≤ j := by omega
      have i1 : (j : Int) < n := by omega
      have ca := hc j hlt
      have cb := hc' j hlt
      have d0 := difK_lo l l2 j
      clear hc hc'
      by_cases q : bt l j = bt l2 j
      · have q1 : (bt l j != bt l2 j) = false := by simpa using q
        have HS : Hid (difK l l2 (j + 1) = difK l l2 j) := by unfold Hid; simp only [difK]; rw [if_pos q]; omega
        clear q
        go_wp2_with (go_quiet (fail))
        exact ⟨⟨j + 1, by omega, by go_num, by rw [HS.out], hD.step nq⟩, by simp [intOf]; omega⟩
      · have q1 : (bt l j != bt l2 j) = true := by simpa using q
        have HS : Hid (difK l l2 (j + 1) = difK l l2 j + 1) := by unfold Hid; simp only [difK]; rw [if_neg q]
        clear q
        go_wp2_with (go_quiet (fail))
        exact ⟨⟨j + 1, by omega, by go_num, by rw [HS.out], hD.step nq⟩, by simp [intOf]; omega⟩
    · obtain rfl : j = n := by omega
      go_wp2_with fail
      go_ret
      exact ⟨rfl, hD⟩
/-- Two new blocks that hold the same. -/
structure TwoM (w0 : World) (cs : Array Value) (t : TypeId) (a b : Value) (w : World) : Prop where
  out : ∃ g h, a = .pointer (some ⟨g, 0, none⟩) ∧ b = .pointer (some ⟨h, 0, none⟩) ∧ g ≠ h ∧ w0.heap.size ≤ g ∧ w0.heap.size ≤ h ∧ Blk w g cs t ∧ Blk w h cs t ∧ Below w0.heap.size w0 w
theorem two_a (w0 : World) (cs : Array Value) (t : TypeId) (k : Nat) (hk : w0.heap.size = k) : TwoM w0 cs t (.pointer (some ⟨k, 0, none⟩)) (.pointer (some ⟨k + 1, 0, none⟩)) ((w0.alloc (.cells cs t)).alloc (.cells cs t)).drew :=
  ⟨_, _, rfl, rfl, by omega, by omega, by omega, ((blk_new w0 cs t _ hk).alloc _).drew, (blk_new _ cs t _ (by simp [hk])).drew, by (repeat (first | with_reducible exact Below.refl _ _ | with_reducible refine below_drew ?_ | with_reducible refine below_drewN ?_ _ | with_reducible refine below_alloc ?_ (Nat.le_refl _) _ | with_reducible refine Below.setCell ?_ (by first | exact Nat.le_refl _ | (simp only []; omega)) _ | with_reducible assumption))⟩
theorem two_b (w0 : World) (cs : Array Value) (t : TypeId) (k : Nat) (hk : w0.heap.size = k) : TwoM w0 cs t (.pointer (some ⟨k + 1, 0, none⟩)) (.pointer (some ⟨k, 0, none⟩)) ((w0.alloc (.cells cs t)).alloc (.cells cs t)).drew :=
  ⟨_, _, rfl, rfl, by omega, by omega, by omega, (blk_new _ cs t _ (by simp [hk])).drew, ((blk_new w0 cs t _ hk).alloc _).drew, by (repeat (first | with_reducible exact Below.refl _ _ | with_reducible refine below_drew ?_ | with_reducible refine below_drewN ?_ _ | with_reducible refine below_alloc ?_ (Nat.le_refl _) _ | with_reducible refine Below.setCell ?_ (by first | exact Nat.le_refl _ | (simp only []; omega)) _ | with_reducible assumption))⟩

theorem pptpKeeps_walk (w : World) (A : Option Addr) (n c : Nat) (l : List UInt8) (hb : Bs w A n c l) (v : Int) (v0 : 0 ≤ v) (v1 : v ≤ 65535) :
    Calls Try.prog 8 #[.slice A n c, .int .u16 v] w fun e w' => e = .returned (.bool true) ∧ Below w.heap.size w w' := by
  by_cases h : pE l = 0
  · have e2 : (pE l != 0) = false := by simp [h]
    obtain ⟨kx0, kx1, kx2, kx3, kx4⟩ := keep_c v0 v1 h
    obtain ⟨ky0, ky1, ky2, ky3, ky4⟩ := keep_p v0 v1 h
    have dx : decide (difK (wAt caT l v) l n ≤ 2) = true := by simpa using dif_wAt (f := caT) (fun _ => ca_in h) n
    have dy : decide (difK (wAt peT l v) l n ≤ 2) = true := by simpa using dif_wAt (f := peT) (fun _ => pe_in h) n
    obtain ⟨X, hX⟩ : ∃ X, wAt caT l v = X := ⟨_, rfl⟩
    obtain ⟨Y, hY⟩ : ∃ Y, wAt peT l v = Y := ⟨_, rfl⟩
    rw [hX] at kx0 kx1 kx2 kx3 kx4 dx
    rw [hY] at ky0 ky1 ky2 ky3 ky4 dy
    obtain ⟨T, hT'⟩ : ∃ T, pT l = T := ⟨_, rfl⟩
    obtain ⟨C, hC'⟩ : ∃ C, pC l = C := ⟨_, rfl⟩
    obtain ⟨P, hP'⟩ : ∃ P, pP l = P := ⟨_, rfl⟩
    obtain ⟨R, hR'⟩ : ∃ R, pR l = R := ⟨_, rfl⟩
    obtain ⟨C2, hC2⟩ : ∃ C2, (if T = 15 then C else v) = C2 := ⟨_, rfl⟩
    obtain ⟨P2, hP2⟩ : ∃ P2, (if T = 15 ∨ T = 8 then v else P) = P2 := ⟨_, rfl⟩
    rw [hT'] at kx1 kx2 ky1 ky3
    rw [hC'] at kx2 ky2
    rw [hP'] at kx3 ky3
    rw [hR'] at kx4 ky4
    rw [hC2] at kx2
    rw [hP2] at ky3
    have HX := Lib.hid hX
    have HY := Lib.hid hY
    have HC2 := Lib.hid hC2
    have HP2 := Lib.hid hP2
    clear h hX hY hC2 hP2
    go_enter Try.func8, Try.ntmps8
    go_wp2_with (first
      | (go_at_call 10; ((with_reducible refine (parse_v A n c l w hb).mono ?_); rintro e w1 ⟨rfl, hB1⟩); have b1 := hb.below hB1)
      | (go_at_call 15; ((with_reducible refine (withCall_any A n c l v v0 v1 _ (b1.alloc _)).mono ?_); rintro e w2 ⟨A2, c2, rfl, ho2, hB2⟩); have x2 : Bs w2 A2 n c2 X := (by have := ho2.bs; rw [HX.out] at this; exact this); have b2 := (b1.alloc _).below hB2; have m2 := (blk_new w1 _ _ _ rfl).below hB2; have T2 := below_then (below_alloc hB1 (Nat.le_refl _) _) hB2)
      | (go_at_call 17; ((with_reducible refine (withPeer_any A n c l v v0 v1 w2 b2).mono ?_); rintro e w3 ⟨A3, c3, rfl, ho3, hB3⟩); have y3 : Bs w3 A3 n c3 Y := (by have := ho3.bs; rw [HY.out] at this; exact this); have x3 := x2.below hB3; have b3 := b2.below hB3; have m3 := m2.below hB3; have T3 := below_then T2 hB3)
      | (go_at_call 10; ((with_reducible refine (parse_v A2 n c2 X w3 x3).mono ?_); rintro e w4 ⟨rfl, hB4⟩); have y4 := y3.below hB4; have x4 := x3.below hB4; have b4 := b3.below hB4; have m4 := m3.below hB4; have T4 := below_then T3 hB4)
      | (go_at_call 10; ((with_reducible refine (parse_v A3 n c3 Y _ (y4.alloc _)).mono ?_); rintro e w5 ⟨rfl, hB5⟩); have y5 := (y4.alloc _).below hB5; have x5 := (x4.alloc _).below hB5; have b5 := (b4.alloc _).below hB5; have m5 := (m4.alloc _).below hB5; have p5 := (blk_new w4 _ _ _ rfl).below hB5; have T5 := below_then (below_alloc T4 (Nat.le_refl _) _) hB5))
    have mc := m5.cell
    have z5 : w1.heap.size < w5.heap.size := m5.lt
    have z6 : w1.heap.size < w5.heap.size + 1 := by omega
    have z7 : w1.heap.size < w5.heap.size + 1 + 1 := by omega
    go_cut [13, 14] from 53 to 55 (fun v13 v14 wx => TwoM (w5.alloc (.cells #[.int .i64 T, .int .u16 C, .int .u16 P2, .int .u8 R] 25)) #[.int .i64 T, .int .u16 C, .int .u16 P, .int .u8 R] 25 v13 v14 wx)
    case first =>
      go_region
      all_goals go_wp2_with fail
      all_goals go_meet
      all_goals first | exact two_a _ _ _ _ (by simp) | exact two_b _ _ _ _ (by simp)
    case rest =>
      obtain ⟨g, h, rfl, rfl, hgh, hg0, hh0, G, H, hB6⟩ := hcut.out
      rename World => wx
      have M6 := ((m5.alloc (.cells #[.int .i64 T, .int .u16 C, .int .u16 P2, .int .u8 R] 25)).below hB6).cell
      have G6 := G.cell
      have H6 := H.cell
      clear mc z5 z6 z7
      by_cases t15 : T = 15
      · have s15 : (T != 15) = false := by simp [t15]
        have r15 : (T == 15) = true := by simp [t15]
        obtain rfl : C = C2 := by rw [← HC2.out, if_pos t15]
        obtain rfl : P2 = v := by rw [← HP2.out, if_pos (.inl t15)]
        have hB7 := hB6.setCell (p := ⟨h, 2, none⟩) hh0 (.int .u16 P2)
        have GF := G.far ⟨h, 2, none⟩ (Ne.symm hgh) (.int .u16 P2)
        have HF : Blk (wx.setCell ⟨h, 2, none⟩ (.int .u16 P2)) h #[.int .i64 T, .int .u16 C, .int .u16 P2, .int .u8 R] 25 := H.set_ 2 (.int .u16 P2)
        have BF := (b5.alloc (.cells #[.int .i64 T, .int .u16 C, .int .u16 P2, .int .u8 R] 25)).below hB7
        have XF := (x5.alloc (.cells #[.int .i64 T, .int .u16 C, .int .u16 P2, .int .u8 R] 25)).below hB7
        have YF := (y5.alloc (.cells #[.int .i64 T, .int .u16 C, .int .u16 P2, .int .u8 R] 25)).below hB7
        have PF := (p5.alloc (.cells #[.int .i64 T, .int .u16 C, .int .u16 P2, .int .u8 R] 25)).below hB7
        have QF := (blk_new w5 #[.int .i64 T, .int .u16 C, .int .u16 P2, .int .u8 R] 25 _ rfl).below hB7
        have TF := below_then (below_alloc T5 (Nat.le_refl _) _) hB7
        clear t15
        go_wp2_with (first
          | (go_at_call 12; ((with_reducible refine (live15_any _).mono ?_); rintro e w7 ⟨rfl, hB7⟩); have g7 := (GF.below hB7).cell; have h7 := (HF.below hB7).cell; have p7 := (PF.below hB7).cell; have q7 := (QF.below hB7).cell; have b7 := BF.below hB7; have x7 := XF.below hB7; have y7 := YF.below hB7; have T7 := below_then TF hB7)
          | (go_at_call 20; ((with_reducible refine (differ_any A2 n c2 X A c l w7 x7 b7).mono ?_); rintro e w8 ⟨rfl, hD8⟩); have b8 := b7.below hD8.bel; have y8 := y7.below hD8.bel; have T8 := below_then T7 hD8.bel)
          | (go_at_call 20; ((with_reducible refine (differ_any A3 n c3 Y A c l w8 y8 b8).mono ?_); rintro e w9 ⟨rfl, hD9⟩); have T9 := below_then T8 hD9.bel))
        go_ret
        exact ⟨rfl, T9⟩
      · have s15 : (T != 15) = true := by simpa using t15
        have r15 : (T == 15) = false := by simpa using t15
        obtain rfl : C2 = v := by rw [← HC2.out, if_neg t15]
        have hB7 := hB6.setCell (p := ⟨g, 1, none⟩) hg0 (.int .u16 C2)
        have M7 := ((m5.alloc (.cells #[.int .i64 T, .int .u16 C, .int .u16 P2, .int .u8 R] 25)).below hB7).cell
        have G7 : Blk (wx.setCell ⟨g, 1, none⟩ (.int .u16 C2)) g #[.int .i64 T, .int .u16 C2, .int .u16 P, .int .u8 R] 25 := G.set_ 1 (.int .u16 C2)
        have H7 := H.far ⟨g, 1, none⟩ hgh (.int .u16 C2)
        have H7c := H7.cell
        by_cases t8 : T = 8
        · have r8 : (T == 8) = true := by simp [t8]
          obtain rfl : P2 = C2 := by rw [← HP2.out, if_pos (.inr t8)]
          have hB8 := hB7.setCell (p := ⟨h, 2, none⟩) hh0 (.int .u16 P2)
          have GF := G7.far ⟨h, 2, none⟩ (Ne.symm hgh) (.int .u16 P2)
          have HF : Blk ((wx.setCell ⟨g, 1, none⟩ (.int .u16 P2)).setCell ⟨h, 2, none⟩ (.int .u16 P2)) h #[.int .i64 T, .int .u16 C, .int .u16 P2, .int .u8 R] 25 := H7.set_ 2 (.int .u16 P2)
          have BF := (b5.alloc (.cells #[.int .i64 T, .int .u16 C, .int .u16 P2, .int .u8 R] 25)).below hB8
          have XF := (x5.alloc (.cells #[.int .i64 T, .int .u16 C, .int .u16 P2, .int .u8 R] 25)).below hB8
          have YF := (y5.alloc (.cells #[.int .i64 T, .int .u16 C, .int .u16 P2, .int .u8 R] 25)).below hB8
          have PF := (p5.alloc (.cells #[.int .i64 T, .int .u16 C, .int .u16 P2, .int .u8 R] 25)).below hB8
          have QF := (blk_new w5 #[.int .i64 T, .int .u16 C, .int .u16 P2, .int .u8 R] 25 _ rfl).below hB8
          have TF := below_then (below_alloc T5 (Nat.le_refl _) _) hB8
          clear t15 t8
          go_wp2_with (first
            | (go_at_call 12; ((with_reducible refine (live15_any _).mono ?_); rintro e w7 ⟨rfl, hB7⟩); have g7 := (GF.below hB7).cell; have h7 := (HF.below hB7).cell; have p7 := (PF.below hB7).cell; have q7 := (QF.below hB7).cell; have b7 := BF.below hB7; have x7 := XF.below hB7; have y7 := YF.below hB7; have T7 := below_then TF hB7)
            | (go_at_call 20; ((with_reducible refine (differ_any A2 n c2 X A c l w7 x7 b7).mono ?_); rintro e w8 ⟨rfl, hD8⟩); have b8 := b7.below hD8.bel; have y8 := y7.below hD8.bel; have T8 := below_then T7 hD8.bel)
            | (go_at_call 20; ((with_reducible refine (differ_any A3 n c3 Y A c l w8 y8 b8).mono ?_); rintro e w9 ⟨rfl, hD9⟩); have T9 := below_then T8 hD9.bel))
          go_ret
          exact ⟨rfl, T9⟩
        · have r8 : (T == 8) = false := by simpa using t8
          obtain rfl : P2 = P := by rw [← HP2.out, if_neg (by omega)]
          have GF := G7
          have HF := H7
          have BF := (b5.alloc (.cells #[.int .i64 T, .int .u16 C, .int .u16 P2, .int .u8 R] 25)).below hB7
          have XF := (x5.alloc (.cells #[.int .i64 T, .int .u16 C, .int .u16 P2, .int .u8 R] 25)).below hB7
          have YF := (y5.alloc (.cells #[.int .i64 T, .int .u16 C, .int .u16 P2, .int .u8 R] 25)).below hB7
          have PF := (p5.alloc (.cells #[.int .i64 T, .int .u16 C, .int .u16 P2, .int .u8 R] 25)).below hB7
          have QF := (blk_new w5 #[.int .i64 T, .int .u16 C, .int .u16 P2, .int .u8 R] 25 _ rfl).below hB7
          have TF := below_then (below_alloc T5 (Nat.le_refl _) _) hB7
          clear t15 t8
          go_wp2_with (first
            | (go_at_call 12; ((with_reducible refine (live15_any _).mono ?_); rintro e w7 ⟨rfl, hB7⟩); have g7 := (GF.below hB7).cell; have h7 := (HF.below hB7).cell; have p7 := (PF.below hB7).cell; have q7 := (QF.below hB7).cell; have b7 := BF.below hB7; have x7 := XF.below hB7; have y7 := YF.below hB7; have T7 := below_then TF hB7)
            | (go_at_call 20; ((with_reducible refine (differ_any A2 n c2 X A c l w7 x7 b7).mono ?_); rintro e w8 ⟨rfl, hD8⟩); have b8 := b7.below hD8.bel; have y8 := y7.below hD8.bel; have T8 := below_then T7 hD8.bel)
            | (go_at_call 20; ((with_reducible refine (differ_any A3 n c3 Y A c l w8 y8 b8).mono ?_); rintro e w9 ⟨rfl, hD9⟩); have T9 := below_then T8 hD9.bel))
          go_ret
          exact ⟨rfl, T9⟩
  · have e2 : (pE l != 0) = true := by simpa using h
    have hx : wAt caT l v = l := by unfold wAt; rw [if_neg (fun q => h q.1)]
    have hy : wAt peT l v = l := by unfold wAt; rw [if_neg (fun q => h q.1)]
    clear h
    go_enter Try.func8, Try.ntmps8
    go_wp2_with (first
      | (go_at_call 10; ((with_reducible refine (parse_v A n c l w hb).mono ?_); rintro e w1 ⟨rfl, hB1⟩); have b1 := hb.below hB1)
      | (go_at_call 15; ((with_reducible refine (withCall_any A n c l v v0 v1 _ (b1.alloc _)).mono ?_); rintro e w2 ⟨A2, c2, rfl, ho2, hB2⟩); have x2 : Bs w2 A2 n c2 l := (by have := ho2.bs; rw [hx] at this; exact this); have b2 := (b1.alloc _).below hB2; have T2 := below_then (below_alloc hB1 (Nat.le_refl _) _) hB2)
      | (go_at_call 17; ((with_reducible refine (withPeer_any A n c l v v0 v1 w2 b2).mono ?_); rintro e w3 ⟨A3, c3, rfl, ho3, hB3⟩); have y3 : Bs w3 A3 n c3 l := (by have := ho3.bs; rw [hy] at this; exact this); have x3 := x2.below hB3; have b3 := b2.below hB3; have T3 := below_then T2 hB3)
      | (go_at_call 12; ((with_reducible refine (live15_any _).mono ?_); rintro e w4 ⟨rfl, hB4⟩); have q1 := cv (b3.below hB4); have q2 := cv (x3.below hB4); have q3 := cv (y3.below hB4); have T4 := below_then T3 hB4))
    go_ret
    exact ⟨rfl, T4⟩
end Go.Proofs.Ytkiiaaadcfaojaa

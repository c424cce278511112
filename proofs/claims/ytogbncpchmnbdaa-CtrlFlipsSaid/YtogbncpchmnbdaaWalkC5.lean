/- CtrlFlips. -/
import Derived.Test.YtogbncpchmnbdaaWalkC4
namespace Go.Proofs.Ytogbncpchmnbdaa
open Go.RowKit
set_option linter.unusedVariables false
set_option linter.unusedSimpArgs false
set_option linter.unusedSimpArgs false
set_option maxHeartbeats 4000000
set_option maxRecDepth 100000

theorem rmsame_zero (p : Msg) (A1 : Option Addr) (n1 c1 : Nat) (w : World) (k1 : Bs w A1 n1 c1 p.dat) :
    Calls Try.prog 21 #[(.agg #[.int .u8 (p).ty, .int .u8 (p).code, .int .u32 (p).rest, .slice A1 n1 c1]), .agg #[.int .u8 0, .int .u8 0, .int .u32 0, .slice none 0 0]] w fun e w' => e = .returned (.bool (sameM p zM)) ∧ Below w.heap.size w w' :=
  rmsame_any p zM A1 n1 c1 none 0 0 w k1 (Bs.none_ _)
theorem ctrlFlips_walk (w : World) (p : Pkt) (hp : p.Ok) (A1 : Option Addr) (n1 c1 : Nat) (A2 : Option Addr) (n2 c2 : Nat) (k1 : Bs w A1 n1 c1 p.opt) (k2 : Bs w A2 n2 c2 p.dat)
    (m : Msg) (hm : m.Ok) (X1 : Option Addr) (m1 d1 : Nat) (j1 : Bs w X1 m1 d1 m.dat) (hm1 : m1 ≤ 140737488351232) (x : Int) (x0 : 0 ≤ x) (x1 : x ≤ 65535) :
    Calls Try.prog 8 #[(.agg #[.int .u8 (p).tos, .int .u16 (p).id, .bool (p).keep, .int .u8 (p).ttl, .int .u8 (p).proto, .int .u32 (p).src, .int .u32 (p).dst, .slice A1 n1 c1, .slice A2 n2 c2]), (.agg #[.int .u8 (m).ty, .int .u8 (m).code, .int .u32 (m).rest, .slice X1 m1 d1]), .int .u16 x] w fun e w' => e = .returned (.bool true) ∧ Below w.heap.size w w' := by
  have ca := fun W k1 j1 => bicmp_any p A1 n1 c1 A2 n2 c2 m hm X1 m1 d1 W k1 j1 (by omega)
  obtain ⟨P1, hP1⟩ : ∃ P, withP p 1 (mS m) = P := ⟨_, rfl⟩
  obtain ⟨E1, hE1⟩ : ∃ E, wiE p (8 + m.dat.length) = E := ⟨_, rfl⟩
  simp only [hP1, hE1] at ca
  by_cases h : E1 = 0
  · subst h
    have hE' : wiE p (mS m).length = 0 := by rw [mS_len]; exact hE1
    rw [withP_ok hE'] at hP1
    have hN : P1.dat.length = 8 + m.dat.length := by rw [← hP1]; exact mS_len m
    have n9 := wiE_len hE1
    have hct : ∀ j x, 0 ≤ x → x ≤ 255 → j < 8 + m.dat.length → x ≠ bt P1.dat j → ∀ W A1 n1 c1 A2 n2 c2, Bs W A2 n2 c2 (P1.dat.set j (ub x)) → Calls Try.prog 30 #[(.agg #[.int .u8 (P1).tos, .int .u16 (P1).id, .bool (P1).keep, .int .u8 (P1).ttl, .int .u8 (P1).proto, .int .u32 (P1).src, .int .u32 (P1).dst, .slice A1 n1 c1, .slice A2 n2 c2])] W (MsPost W zM 5) := fun j x h0 h1 hj hx W A1 n1 c1 A2 n2 c2 kb => by
      have hd : P1.dat = mS m := by rw [← hP1]
      rw [hd] at hx kb
      have e := ic_flip p m h0 h1 hj hx
      have hh := icmp_any { p with proto := 1, dat := (mS m).set j (ub x) } A1 n1 c1 A2 n2 c2 W kb
      rw [icM_bad (by rw [e]; decide), e] at hh
      rw [← hP1]
      exact hh
    obtain ⟨N, hNN⟩ : ∃ N, 8 + m.dat.length = N := ⟨_, rfl⟩
    rw [hNN] at hct hN n9
    have n0 : 8 ≤ N := by omega
    have n0' : (8 : Int) ≤ N := by omega
    obtain ⟨H, hH⟩ : ∃ H : Int, (N : Int) * 8 = H := ⟨_, rfl⟩
    have m0 : 0 ≤ x % H := Int.emod_nonneg _ (by omega)
    have m1' : x % H < H := Int.emod_lt_of_pos _ (by omega)
    have hz : (H == 0) = false := by simp; omega
    obtain ⟨q, hq⟩ : ∃ q : Int, x % H = q := ⟨_, rfl⟩
    rw [hq] at m0 m1'
    obtain ⟨j, hj⟩ : ∃ j : Nat, q / 8 = j := ⟨(q / 8).toNat, by omega⟩
    obtain ⟨r, hr⟩ : ∃ r : Int, q % 8 = r := ⟨_, rfl⟩
    have jN : (j : Int) < N := by omega
    have r0 : 0 ≤ r := by omega
    have r1 : r < 8 := by omega
    have hd1 : IntKind.i64.wrap (q.tdiv 8) = (j : Int) := by
      rw [Int.tdiv_eq_ediv_of_nonneg (by omega), hj]; simp [IntKind.wrap, IntKind.signed, IntKind.bits]; omega
    have hd2 : q.tmod 8 = r := by rw [Int.tmod_eq_emod_of_nonneg (by omega), hr]
    obtain ⟨f0, f1, f2, -⟩ := flip_any (bt_lo P1.dat j) (bt_hi P1.dat j) r0 r1
    have S1 : (0 : Int) ≤ 2 ^ r.toNat ∧ (2 : Int) ^ r.toNat ≤ 128 := by
      have : r = 0 ∨ r = 1 ∨ r = 2 ∨ r = 3 ∨ r = 4 ∨ r = 5 ∨ r = 6 ∨ r = 7 := by omega
      rcases this with e | e | e | e | e | e | e | e <;> (rw [e]; decide)
    have hS2 : (2 : Int) ^ r.toNat % 256 = 2 ^ r.toNat := by omega
    obtain ⟨S, hS⟩ : ∃ S : Int, 2 ^ r.toNat % 256 = S := ⟨_, rfl⟩
    rw [← hS2, hS] at f0 f1 f2 S1
    obtain ⟨S0, S1⟩ := S1
    clear hS2
    obtain ⟨X, hX⟩ : ∃ X, bits .xor .u8 (bt P1.dat j) S = X := ⟨_, rfl⟩
    rw [hX] at f0 f1 f2
    have hF := hct j X f0 f1 (by omega) f2
    have HN := Lib.hid hN
    clear hct hN hNN hE1 hE' hP1 f2
    obtain ⟨k, hk⟩ : ∃ k : Nat, w.heap.size = k := ⟨_, rfl⟩
    obtain ⟨w1, hw1⟩ : ∃ W, ((w.alloc (.cells #[.int .u8 (p).tos, .int .u16 (p).id, .bool (p).keep, .int .u8 (p).ttl, .int .u8 (p).proto, .int .u32 (p).src, .int .u32 (p).dst, .slice A1 n1 c1, .slice A2 n2 c2] 26)).alloc (.cells #[.int .u8 (m).ty, .int .u8 (m).code, .int .u32 (m).rest, .slice X1 m1 d1] 28)) = W := ⟨_, rfl⟩
    have Q1 : Blk w1 k #[.int .u8 (p).tos, .int .u16 (p).id, .bool (p).keep, .int .u8 (p).ttl, .int .u8 (p).proto, .int .u32 (p).src, .int .u32 (p).dst, .slice A1 n1 c1, .slice A2 n2 c2] 26 := by rw [← hw1]; exact ((blk_new _ _ _ k (by simp [hk])).alloc _)
    have M1 : Blk w1 (k + 1) #[.int .u8 (m).ty, .int .u8 (m).code, .int .u32 (m).rest, .slice X1 m1 d1] 28 := by rw [← hw1]; exact (blk_new _ _ _ (k + 1) (by simp [hk]))
    have R1 : Below w.heap.size w w1 := by rw [← hw1]; (repeat (first | with_reducible exact Below.refl _ _ | with_reducible refine below_drew ?_ | with_reducible refine below_drewN ?_ _ | with_reducible refine below_alloc ?_ (Nat.le_refl _) _ | with_reducible refine Below.setCell ?_ (by first | exact Nat.le_refl _ | (simp only []; omega)) _ | with_reducible assumption))
    have Qc1 := Q1.cell
    have Mc1 := M1.cell
    have Ql1 := Q1.lt
    have Ml1 := M1.lt
    have x1 := (k1).below R1
    have y1 := (j1).below R1
    clear k1 k2 j1
    go_enter Try.func8, Try.ntmps8
    go_wp2_with (first
      | (go_at_call 14; go_loud ((with_reducible refine (ca _ x1 y1).mono ?_); rintro e u2 hpost; (obtain ⟨B2, e2, g2, C2, h2, i2, rfl, O2, N2, hB2⟩ := hpost.out); clear hpost; have uN : h2 = N := (by rw [← N2.len]; exact HN.out); subst uN; (obtain ⟨g, rfl, gl1, gl2⟩ := N2.ptr (by omega)); (obtain ⟨w2, hw2⟩ : ∃ W, u2.alloc (.cells #[.int .u8 (P1).tos, .int .u16 (P1).id, .bool (P1).keep, .int .u8 (P1).ttl, .int .u8 (P1).proto, .int .u32 (P1).src, .int .u32 (P1).dst, .slice B2 e2 g2, .slice (some ⟨g, 0, none⟩) h2 i2] 26) = W := ⟨_, rfl⟩); have V2 : Below u2.heap.size u2 w2 := (by rw [← hw2]; (repeat (first | with_reducible exact Below.refl _ _ | with_reducible refine below_drew ?_ | with_reducible refine below_drewN ?_ _ | with_reducible refine below_alloc ?_ (Nat.le_refl _) _ | with_reducible refine Below.setCell ?_ (by first | exact Nat.le_refl _ | (simp only []; omega)) _ | with_reducible assumption))); (obtain ⟨kS2, hkS2⟩ : ∃ k : Nat, u2.heap.size = k := ⟨_, rfl⟩); have S2 : Blk w2 kS2 #[.int .u8 (P1).tos, .int .u16 (P1).id, .bool (P1).keep, .int .u8 (P1).ttl, .int .u8 (P1).proto, .int .u32 (P1).src, .int .u32 (P1).dst, .slice B2 e2 g2, .slice (some ⟨g, 0, none⟩) h2 i2] 26 := (by rw [← hw2]; exact blk_new u2 _ _ _ hkS2); have Sc2 := S2.cell; have T2 := below_then hB2 V2; have o2 := (N2).below V2; have Q2 := Q1.below T2; have Qc2 := Q2.cell; clear Qc1; have M2 := M1.below T2; have Mc2 := M2.cell; clear Mc1; have x2 := x1.below T2; have y2 := y1.below T2; have R2 := below_then R1 T2)))
    refine region_txt 10 (by kernel_rfl) (by kernel_rfl) ?_; (iterate 10 (first | (apply ObsK.skip (by rfl)) | (apply ObsK.v (by rfl); (intro wo hT; (repeat (first | (intro _ _ k; try have hcv := cv k))); (have sc := (S2.below hT).cell; have aj := (o2.below hT).at_ (i := j) (by omega)); refine Goes.mk ?_; go_simp; first | exact goes_v | exact goes_b (by assumption) | (refine goes_enter ?_; first | fail))) | (apply ObsK.b (by rfl); (intro wo hT; (repeat (first | (intro _ _ k; try have hcv := cv k))); (have sc := (S2.below hT).cell; have aj := (o2.below hT).at_ (i := j) (by omega)); refine Goes.mk ?_; go_simp; first | exact goes_v | exact goes_b (by assumption) | (refine goes_enter ?_; first | fail))))); refine ObsK.nil ?_; intro wz hBz; simp only [finOn, List.drop_succ_cons, List.drop_zero, List.drop_nil]
    go_simp
    have S3 := S2.below hBz
    have o3 := o2.below hBz
    have R3 := below_then R2 hBz
    have kg : g < kS2 := by omega
    have wg : w.heap.size ≤ g := Nat.le_trans R1.size gl1
    obtain ⟨w5, hw5⟩ : ∃ W, wz.setCell ⟨g, j, none⟩ (.int .u8 X) = W := ⟨_, rfl⟩
    have o5 := o3.set_ (i := j) (by omega) X (y := X) (by omega)
    have S5 := S3.far ⟨g, j, none⟩ (by show g ≠ kS2; omega) (.int .u8 X)
    have R5 := R3.setCell (p := ⟨g, j, none⟩) wg (.int .u8 X)
    have c5 := o3.at_ (i := j) (by omega)
    have sc3 := S3.cell
    rw [hw5] at o5 S5 R5
    have Sc5 := S5.cell
    
    go_wp2_with (first
      | (go_at_call 30; go_loud ((with_reducible refine (hF _ _ _ _ _ _ _ o5.bs).mono ?_); rintro e u6 hpost; (obtain ⟨B6, m6, d6, rfl, O6, hB6⟩ := hpost.out); clear hpost; (obtain ⟨w6, hw6⟩ : ∃ W, u6.alloc (.cells #[.int .u8 (zM).ty, .int .u8 (zM).code, .int .u32 (zM).rest, .slice B6 m6 d6] 28) = W := ⟨_, rfl⟩); have V6 : Below u6.heap.size u6 w6 := (by rw [← hw6]; (repeat (first | with_reducible exact Below.refl _ _ | with_reducible refine below_drew ?_ | with_reducible refine below_drewN ?_ _ | with_reducible refine below_alloc ?_ (Nat.le_refl _) _ | with_reducible refine Below.setCell ?_ (by first | exact Nat.le_refl _ | (simp only []; omega)) _ | with_reducible assumption))); (obtain ⟨kU6, hkU6⟩ : ∃ k : Nat, u6.heap.size = k := ⟨_, rfl⟩); have U6 : Blk w6 kU6 #[.int .u8 (zM).ty, .int .u8 (zM).code, .int .u32 (zM).rest, .slice B6 m6 d6] 28 := (by rw [← hw6]; exact blk_new u6 _ _ _ hkU6); have Uc6 := U6.cell; have T6 := below_then hB6 V6; have r6 := (O6.bs).below V6; have S6 := S5.below T6; have Sc6 := S6.cell; clear Sc5; have o6 := o5.below T6; have R6 := below_then R5 T6))
      | (go_at_call 18; go_loud ((with_reducible refine (live04_any _).mono ?_); rintro e w7 ⟨rfl, hB7⟩; have S7 := S6.below hB7; have Sc7 := S7.cell; clear Sc6; have U7 := U6.below hB7; have Uc7 := U7.cell; clear Uc6; have r7 := r6.below hB7; have o7 := o6.below hB7; have R7 := below_then R6 hB7))
      | (go_at_call 21; go_loud ((with_reducible refine (rmsame_zero zM _ _ _ _ r7).mono ?_); rintro e w8 ⟨rfl, hB8⟩; have S8 := S7.below hB8; have Sc8 := S8.cell; clear Sc7; have U8 := U7.below hB8; have Uc8 := U8.cell; clear Uc7; have r8 := r7.below hB8; have o8 := o7.below hB8; have R8 := below_then R7 hB8)))
    go_ret
    exact ⟨rfl, R8⟩
  · have he : (E1 != 0) = true := by simpa using h
    clear h hP1 hE1
    obtain ⟨k, hk⟩ : ∃ k : Nat, w.heap.size = k := ⟨_, rfl⟩
    obtain ⟨w1, hw1⟩ : ∃ W, ((w.alloc (.cells #[.int .u8 (p).tos, .int .u16 (p).id, .bool (p).keep, .int .u8 (p).ttl, .int .u8 (p).proto, .int .u32 (p).src, .int .u32 (p).dst, .slice A1 n1 c1, .slice A2 n2 c2] 26)).alloc (.cells #[.int .u8 (m).ty, .int .u8 (m).code, .int .u32 (m).rest, .slice X1 m1 d1] 28)) = W := ⟨_, rfl⟩
    have Q1 : Blk w1 k #[.int .u8 (p).tos, .int .u16 (p).id, .bool (p).keep, .int .u8 (p).ttl, .int .u8 (p).proto, .int .u32 (p).src, .int .u32 (p).dst, .slice A1 n1 c1, .slice A2 n2 c2] 26 := by rw [← hw1]; exact ((blk_new _ _ _ k (by simp [hk])).alloc _)
    have M1 : Blk w1 (k + 1) #[.int .u8 (m).ty, .int .u8 (m).code, .int .u32 (m).rest, .slice X1 m1 d1] 28 := by rw [← hw1]; exact (blk_new _ _ _ (k + 1) (by simp [hk]))
    have R1 : Below w.heap.size w w1 := by rw [← hw1]; (repeat (first | with_reducible exact Below.refl _ _ | with_reducible refine below_drew ?_ | with_reducible refine below_drewN ?_ _ | with_reducible refine below_alloc ?_ (Nat.le_refl _) _ | with_reducible refine Below.setCell ?_ (by first | exact Nat.le_refl _ | (simp only []; omega)) _ | with_reducible assumption))
    have Qc1 := Q1.cell
    have Mc1 := M1.cell
    have Ql1 := Q1.lt
    have Ml1 := M1.lt
    have x1 := (k1).below R1
    have y1 := (j1).below R1
    clear k1 k2 j1
    go_enter Try.func8, Try.ntmps8
    go_wp2_with (first
      | (go_at_call 14; go_loud ((with_reducible refine (ca _ x1 y1).mono ?_); rintro e u2 hpost; (obtain ⟨B2, e2, g2, C2, h2, i2, rfl, O2, N2, hB2⟩ := hpost.out); clear hpost; (obtain ⟨w2, hw2⟩ : ∃ W, u2.alloc (.cells #[.int .u8 (P1).tos, .int .u16 (P1).id, .bool (P1).keep, .int .u8 (P1).ttl, .int .u8 (P1).proto, .int .u32 (P1).src, .int .u32 (P1).dst, .slice B2 e2 g2, .slice C2 h2 i2] 26) = W := ⟨_, rfl⟩); have V2 : Below u2.heap.size u2 w2 := (by rw [← hw2]; (repeat (first | with_reducible exact Below.refl _ _ | with_reducible refine below_drew ?_ | with_reducible refine below_drewN ?_ _ | with_reducible refine below_alloc ?_ (Nat.le_refl _) _ | with_reducible refine Below.setCell ?_ (by first | exact Nat.le_refl _ | (simp only []; omega)) _ | with_reducible assumption))); (obtain ⟨kS2, hkS2⟩ : ∃ k : Nat, u2.heap.size = k := ⟨_, rfl⟩); have S2 : Blk w2 kS2 #[.int .u8 (P1).tos, .int .u16 (P1).id, .bool (P1).keep, .int .u8 (P1).ttl, .int .u8 (P1).proto, .int .u32 (P1).src, .int .u32 (P1).dst, .slice B2 e2 g2, .slice C2 h2 i2] 26 := (by rw [← hw2]; exact blk_new u2 _ _ _ hkS2); have Sc2 := S2.cell; have T2 := below_then hB2 V2; have Q2 := Q1.below T2; have Qc2 := Q2.cell; clear Qc1; have M2 := M1.below T2; have Mc2 := M2.cell; clear Mc1; have x2 := x1.below T2; have y2 := y1.below T2; have R2 := below_then R1 T2))
      | (go_at_call 18; go_loud ((with_reducible refine (live04_any _).mono ?_); rintro e w3 ⟨rfl, hB3⟩; have Q3 := Q2.below hB3; have Qc3 := Q3.cell; clear Qc2; have M3 := M2.below hB3; have Mc3 := M3.cell; clear Mc2; have S3 := S2.below hB3; have Sc3 := S3.cell; clear Sc2; have x3 := x2.below hB3; have y3 := y2.below hB3; have R3 := below_then R2 hB3)))
    go_ret
    exact ⟨rfl, R3⟩
end Go.Proofs.Ytogbncpchmnbdaa

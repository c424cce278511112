import Derived.Test.YthbcnlflkanahaaLive1
import Derived.Test.YthbcnlflkanahaaMath1
import Derived.Test.YthbcnlflkanahaaReg
import Derived.Test.YthbcnlflkanahaaWire
namespace Go.Proofs.Ythbcnlflkanahaa
open Go.RowKit
set_option linter.unusedVariables false
set_option linter.unusedSimpArgs false


theorem wirePseudo_walk (w : World) (s : Int) (s0 : 0 ≤ s) (s1 : s ≤ 4294967295) (d : Int) (d0 : 0 ≤ d) (d1 : d ≤ 4294967295) (p : Int) (p0 : 0 ≤ p) (p1 : p ≤ 255) :
    Calls Try.prog 12 #[.int .u32 s, .int .u32 d, .int .u8 p] w fun e w' => e = .returned (.bool true) ∧ Below w.heap.size w w' := by
  obtain ⟨n, hn, n0, n1⟩ : ∃ n, s % 70000 = n ∧ 0 ≤ n ∧ n ≤ 65535 * 2 := ⟨_, rfl, by omega, by omega⟩
  have hS : Below w.heap.size w w.drew := (Below.refl _ w).drew
  go_enter Try.func12, Try.ntmps12
  go_wp2_with fail
  have N0 : Hid (-9223372036854775808 ≤ n) := by unfold Hid; omega
  have N1 : Hid (n ≤ 9223372036854775807) := by unfold Hid; omega
  clear hn
  clear n1
  refine region_txt 25 (by kernel_rfl) (by kernel_rfl) ?_; (iterate 25 (first | (apply ObsK.skip (by rfl)) | (apply ObsK.v (by rfl); (intro wo hT; (repeat (first | (intro _ _ k; try have hcv := cv k))); (skip); refine Goes.mk ?_; go_simp; first | exact goes_v | exact goes_b (by assumption) | (refine goes_enter ?_; first | (go_at_call 15; ((with_reducible refine (live1_any wo).mono ?_); rintro e w1 ⟨rfl, hB1⟩); exact ret_v hB1) | (go_at_call 31; ((with_reducible refine (pseudo_any s d p n s0 s1 d0 d1 p0 p1 N0.out N1.out wo).mono ?_); rintro e w2 ⟨A2, c2, rfl, ho2, hB2⟩); exact ret_b ho2.bs hB2) | (go_at_call 32; ((with_reducible refine (rpseudo_any s d p n s0 s1 d0 d1 p0 p1 N0.out N1.out wo).mono ?_); rintro e w3 ⟨A3, c3, rfl, ho3, hB3⟩); exact ret_b ho3.bs hB3) | (go_at_call 31; ((with_reducible refine (pseudo_any s d p (-1) s0 s1 d0 d1 p0 p1 (by omega) (by omega) wo).mono ?_); rintro e w4 ⟨A4, c4, rfl, ho4, hB4⟩); exact ret_b ho4.bs hB4)))) | (apply ObsK.b (by rfl); (intro wo hT; (repeat (first | (intro _ _ k; try have hcv := cv k))); (skip); refine Goes.mk ?_; go_simp; first | exact goes_v | exact goes_b (by assumption) | (refine goes_enter ?_; first | (go_at_call 15; ((with_reducible refine (live1_any wo).mono ?_); rintro e w1 ⟨rfl, hB1⟩); exact ret_v hB1) | (go_at_call 31; ((with_reducible refine (pseudo_any s d p n s0 s1 d0 d1 p0 p1 N0.out N1.out wo).mono ?_); rintro e w2 ⟨A2, c2, rfl, ho2, hB2⟩); exact ret_b ho2.bs hB2) | (go_at_call 32; ((with_reducible refine (rpseudo_any s d p n s0 s1 d0 d1 p0 p1 N0.out N1.out wo).mono ?_); rintro e w3 ⟨A3, c3, rfl, ho3, hB3⟩); exact ret_b ho3.bs hB3) | (go_at_call 31; ((with_reducible refine (pseudo_any s d p (-1) s0 s1 d0 d1 p0 p1 (by omega) (by omega) wo).mono ?_); rintro e w4 ⟨A4, c4, rfl, ho4, hB4⟩); exact ret_b ho4.bs hB4)))))); refine ObsK.nil ?_; intro wz hBz; simp only [finOn, List.drop_succ_cons, List.drop_zero, List.drop_nil]
  intros; go_simp
  go_wp2_with fail
  go_ret
  exact ⟨rfl, hBz⟩
end Go.Proofs.Ythbcnlflkanahaa

import Derived.Test.YthbcnlflkanahaaLive1
import Derived.Test.YthbcnlflkanahaaMath1
import Derived.Test.YthbcnlflkanahaaReg
import Derived.Test.YthbcnlflkanahaaWire
namespace Go.Proofs.Ythbcnlflkanahaa
open Go.RowKit
set_option linter.unusedVariables false
set_option linter.unusedSimpArgs false

theorem wireWords_walk (w : World) (A : Option Addr) (n c : Nat) (l : List UInt8) (hb : Bs w A n c l) (a : Int) (a0 : -9223372036854775808 ≤ a) (a1 : a ≤ 9223372036854775807) (v : Int) (v0 : 0 ≤ v) (v1 : v ≤ 4294967295) :
    Calls Try.prog 11 #[.slice A n c, .int .i64 a, .int .u32 v] w fun e w' => e = .returned (.bool true) ∧ Below w.heap.size w w' := by
  go_enter Try.func11, Try.ntmps11
  go_wp2_with fail
  refine (few_any A n c l w hb).mono ?_
  rintro e w1 ⟨A1, n1, c1, lt, rfl, hb1, u1, rfl⟩
  obtain ⟨x, hx, x0, x1⟩ : ∃ x, IntKind.u16.wrap v = x ∧ 0 ≤ x ∧ x ≤ 65535 := ⟨v % 65536, by simp [IntKind.wrap, IntKind.signed, IntKind.bits], by omega, by omega⟩
  have hl : (cu []).toArray = #[] := rfl
  go_wp2_with (first
    | (at_builtin; go_loud (refine wpList_append_bs (w0 := w) _ rfl _ _ _ rfl w.heap.size 5 Try.underlying26 info_u8 (some ⟨w.heap.size, 0, none⟩) 0 0 [] rfl (own_lit w _ 5 [] 0 rfl (by omega) (Nat.le_refl _)) A1 n1 c1 lt rfl (hb1.alloc _) ((Below.refl _ w).alloc (Nat.le_refl _) _) (by omega) (by first | exact Nat.le_refl _ | omega | (simp <;> omega)) ?_); intro A3 n3 c3 w3 ho3 hB3 _ hz3; have u3 : n3 = n1 := (by have := ho3.len; have := hb1.len; simp at *; omega); subst u3; have k3 : Bs w3 A3 n3 c3 lt := ho3.bs; have b3 := hb1.below hB3)
    | (go_at_call 23; ((with_reducible refine (put16_any A3 n3 c3 lt a x x0 x1 w3 k3).mono ?_); rintro e w4 ⟨A4, c4, rfl, ho4, hB4⟩); have k4 := k3.below hB4; have b4 := b3.below hB4; have p4 := ho4.bs; have hT := below_then hB3 hB4)
    | (go_at_call 25; ((with_reducible refine (put32_any A3 n3 c3 lt a v v0 v1 w4 k4).mono ?_); rintro e w5 ⟨A5, c5, rfl, ho5, hB5⟩); have k5 := k4.below hB5; have b5 := b4.below hB5; have p5 := p4.below hB5; have q5 := ho5.bs; have hT5 := below_then hT hB5))
  clear hB3 hB4 hB5 hT ho3 ho4 ho5 k3 k4 b3 b4 p4
  refine region_txt 26 (by kernel_rfl) (by kernel_rfl) ?_; (iterate 26 (first | (apply ObsK.skip (by rfl)) | (apply ObsK.v (by rfl); (intro wo hT; (repeat (first | (intro _ _ k; try have hcv := cv k))); (have k7 := k5.below hT; have b7 := b5.below hT; have p7 := p5.below hT; have q7 := q5.below hT; have z1 := cv k7; have z2 := cv b7; have z3 := cv p7; have z4 := cv q7); refine Goes.mk ?_; go_simp; first | exact goes_v | exact goes_b (by assumption) | (refine goes_enter ?_; first | (go_at_call 27; ((with_reducible refine (rput16_any A1 n3 c1 lt a x x0 x1 wo b7).mono ?_); rintro e w8 ⟨A8, c8, rfl, ho8, hB8⟩); exact ret_b ho8.bs hB8) | (go_at_call 28; ((with_reducible refine (rput32_any A1 n3 c1 lt a v v0 v1 wo b7).mono ?_); rintro e w8 ⟨A8, c8, rfl, ho8, hB8⟩); exact ret_b ho8.bs hB8)))) | (apply ObsK.b (by rfl); (intro wo hT; (repeat (first | (intro _ _ k; try have hcv := cv k))); (have k7 := k5.below hT; have b7 := b5.below hT; have p7 := p5.below hT; have q7 := q5.below hT; have z1 := cv k7; have z2 := cv b7; have z3 := cv p7; have z4 := cv q7); refine Goes.mk ?_; go_simp; first | exact goes_v | exact goes_b (by assumption) | (refine goes_enter ?_; first | (go_at_call 27; ((with_reducible refine (rput16_any A1 n3 c1 lt a x x0 x1 wo b7).mono ?_); rintro e w8 ⟨A8, c8, rfl, ho8, hB8⟩); exact ret_b ho8.bs hB8) | (go_at_call 28; ((with_reducible refine (rput32_any A1 n3 c1 lt a v v0 v1 wo b7).mono ?_); rintro e w8 ⟨A8, c8, rfl, ho8, hB8⟩); exact ret_b ho8.bs hB8)))))); refine ObsK.nil ?_; intro wz hBz; simp only [finOn, List.drop_succ_cons, List.drop_zero, List.drop_nil]
  intro A9 c9 k9 A10 c10 k10; go_simp
  have b8 := b5.below hBz
  have hT8 := below_then hT5 hBz
  clear hBz hT5
  go_wp2_with (first
    | (go_at_call 15; ((with_reducible refine (live1_any wz).mono ?_); rintro e w9 ⟨rfl, hB9⟩); replace b8 := b8.below hB9; replace hT8 := below_then hT8 hB9)
    | (go_at_call 24; ((with_reducible refine (get16_any A1 n3 c1 lt a _ b8).mono ?_); rintro e w10 ⟨rfl, hD10⟩); replace b8 := b8.below hD10.bel; replace hT8 := below_then hT8 hD10.bel)
    | (go_at_call 29; ((with_reducible refine (rget16_any A1 n3 c1 lt a _ b8).mono ?_); rintro e w11 ⟨rfl, hD11⟩); replace b8 := b8.below hD11.bel; replace hT8 := below_then hT8 hD11.bel)
    | (go_at_call 26; ((with_reducible refine (get32_any A1 n3 c1 lt a _ b8).mono ?_); rintro e w12 ⟨rfl, hD12⟩); replace b8 := b8.below hD12.bel; replace hT8 := below_then hT8 hD12.bel)
    | (go_at_call 30; ((with_reducible refine (rget32_any A1 n3 c1 lt a _ b8).mono ?_); rintro e w13 ⟨rfl, hD13⟩); replace b8 := b8.below hD13.bel; replace hT8 := below_then hT8 hD13.bel))
  go_ret
  exact ⟨rfl, hT8⟩
end Go.Proofs.Ythbcnlflkanahaa

import Derived.Test.YtkjhickjgncheaaIpV
namespace Go.Proofs.Ytkjhickjgncheaa
open Go.RowKit
set_option linter.unusedVariables false
set_option linter.unusedSimpArgs false
set_option maxHeartbeats 4000000
set_option maxRecDepth 100000

theorem ipv4Parses_walk (w : World) (A : Option Addr) (n c : Nat) (l : List UInt8) (hb : Bs w A n c l) :
    Calls Try.prog 5 #[.slice A n c] w fun e w' => e = .returned (.bool true) ∧ Below w.heap.size w w' := by
  have hmax := hb.max
  have hl : (cu []).toArray = #[] := rfl
  obtain ⟨P, hP⟩ : ∃ P, rdPk false l = P := ⟨_, rfl⟩
  obtain ⟨E, hE⟩ : ∃ E, rdE false l = E := ⟨_, rfl⟩
  have HP := Lib.hid hP
  have HE := Lib.hid hE
  have hs := sameP_self P
  clear hP hE
  go_enter Try.func5, Try.ntmps5
  go_wp2_with (first
    | (at_builtin; refine wpList_append_bs (w0 := w) _ rfl _ _ _ rfl w.heap.size 5 Try.underlying24 info_u8 (some ⟨_, 0, none⟩) 0 0 [] rfl (own_litk _ _ (by simp) w.heap.size 5 [] 0 rfl (by omega) (by omega)) A n c l rfl (hb.alloc _) (by (repeat (first | with_reducible exact Below.refl _ _ | with_reducible refine below_drew ?_ | with_reducible refine below_drewN ?_ _ | with_reducible refine below_alloc ?_ (Nat.le_refl _) _ | with_reducible refine Below.setCell ?_ (by first | exact Nat.le_refl _ | (simp only []; omega)) _ | with_reducible assumption))) (by omega) (by first | exact Nat.le_refl _ | exact Below.size (by (repeat (first | with_reducible exact Below.refl _ _ | with_reducible refine below_drew ?_ | with_reducible refine below_drewN ?_ _ | with_reducible refine below_alloc ?_ (Nat.le_refl _) _ | with_reducible refine Below.setCell ?_ (by first | exact Nat.le_refl _ | (simp only []; omega)) _ | with_reducible assumption))) | omega | (simp <;> omega)) ?_; intro A3 n3 c3 w3 ho3 hB3 _ hz3; have u3 : n3 = n := (by have := ho3.len; have := hb.len; simp at *; omega); subst u3; have k3 : Bs w3 A3 n3 c3 l := ho3.bs; have b3 := hb.below hB3)
    | (go_at_call 21; ((with_reducible refine (ipParse_v HP.out HE.out A3 n3 c3 w3 k3).mono ?_); rintro e w4 ⟨A1, n1, c1, A2, n2, c2, rfl, k1, k2, T4⟩); have b4 := b3.below T4; have k4 := k3.below T4; have T := below_then hB3 T4)
    | (go_at_call 22; ((with_reducible refine (rParse_v HP.out HE.out A n3 c _ (b4.alloc _)).mono ?_); rintro e w5 ⟨B1, m1, d1, B2, m2, d2, rfl, j1, j2, T5⟩); have M4 := (blk_new w4 _ _ _ rfl).below T5; have i1 := (k1.alloc _).below T5; have i2 := (k2.alloc _).below T5; have b5 := (b4.alloc _).below T5; have k5 := (k4.alloc _).below T5; have T6 := below_then (below_alloc T (Nat.le_refl _) _) T5)
    | (go_at_call 16; ((with_reducible refine (live02_any _).mono ?_); rintro e w6 ⟨rfl, hB6⟩); have M6 := ((M4.alloc _).below hB6).cell; have N6 := ((blk_new w5 _ _ _ rfl).below hB6).cell)
    | (go_at_call 20; ((with_reducible refine (rsame_any P P A1 n1 c1 A2 n2 c2 B1 m1 d1 B2 m2 d2 _ ((i1.alloc _).below hB6) ((i2.alloc _).below hB6) ((j1.alloc _).below hB6) ((j2.alloc _).below hB6)).mono ?_); rintro e w7 ⟨rfl, hB7⟩); have ca := cv (((b5.alloc _).below hB6).below hB7); have cb := cv (((k5.alloc _).below hB6).below hB7)))
  go_ret
  exact ⟨rfl, below_then (below_then (below_alloc T6 (Nat.le_refl _) _) hB6) hB7⟩
end Go.Proofs.Ytkjhickjgncheaa

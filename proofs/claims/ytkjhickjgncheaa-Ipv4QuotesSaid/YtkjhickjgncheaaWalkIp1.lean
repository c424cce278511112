import Derived.Test.YtkjhickjgncheaaIpL
import Derived.Test.YtkjhickjgncheaaIpR3
import Derived.Test.YtkjhickjgncheaaIpS
namespace Go.Proofs.Ytkjhickjgncheaa
open Go.RowKit
set_option linter.unusedVariables false
set_option linter.unusedSimpArgs false
set_option maxHeartbeats 4000000
set_option maxRecDepth 100000

theorem ipv4Quotes_walk (w : World) (A : Option Addr) (n c : Nat) (l : List UInt8) (hb : Bs w A n c l) :
    Calls Try.prog 6 #[.slice A n c] w fun e w' => e = .returned (.bool true) ∧ Below w.heap.size w w' := by
  go_enter Try.func6, Try.ntmps6
  go_wp2_with fail
  refine (ipQuote_any A n c l w hb).mono ?_
  intro e w1 hQ
  obtain ⟨A1, n1, c1, A2, n2, c2, rfl, k1, k2, a1, a2, T1⟩ := hQ.out
  have hR0 := fun W hb => rQuote_any A n c l W hb
  clear hQ
  obtain ⟨P, hP⟩ : ∃ P, rdPk true l = P := ⟨_, rfl⟩
  obtain ⟨E, hE⟩ : ∃ E, rdE true l = E := ⟨_, rfl⟩
  rw [hP] at k1 k2 ⊢
  rw [hE]
  have hs := sameP_self P
  have HP := Lib.hid hP
  have HE := Lib.hid hE
  clear hP hE
  go_wp2_with fail
  refine (hR0 _ ((hb.below T1).alloc _)).mono ?_
  intro e w2 hR
  obtain ⟨B1, m1, d1, B2, m2, d2, rfl, j1, j2, b1, b2, T2⟩ := hR.out
  have T3 := below_then (below_alloc T1 (Nat.le_refl _) _) T2
  have M1 := (blk_new w1 _ _ _ rfl).below T2
  have i1 := (k1.alloc _).below T2
  have i2 := (k2.alloc _).below T2
  rw [HP.out] at j1 j2 ⊢
  rw [HE.out]
  clear hR hR0
  go_wp2_with (first
    | (go_at_call 16; ((with_reducible refine (live02_any _).mono ?_); rintro e w3 ⟨rfl, hB3⟩); have M3 := ((M1.alloc _).below hB3).cell; have N3 := ((blk_new w2 _ _ _ rfl).below hB3).cell)
    | (go_at_call 20; ((with_reducible refine (rsame_any P P A1 n1 c1 A2 n2 c2 B1 m1 d1 B2 m2 d2 _ ((i1.alloc _).below hB3) ((i2.alloc _).below hB3) ((j1.alloc _).below hB3) ((j2.alloc _).below hB3)).mono ?_); rintro e w4 ⟨rfl, hB4⟩)))
  go_ret
  exact ⟨rfl, below_then (below_then (below_alloc T3 (Nat.le_refl _) _) hB3) hB4⟩
end Go.Proofs.Ytkjhickjgncheaa

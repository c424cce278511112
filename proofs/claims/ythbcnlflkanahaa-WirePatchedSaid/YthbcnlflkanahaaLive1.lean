import Derived.Test.YthbcnlflkanahaaSum
import Derived.Test.YthbcnlflkanahaaRef1
namespace Go.Proofs.Ythbcnlflkanahaa
open Go.RowKit
set_option linter.unusedVariables false

theorem live1_any (w : World) : Calls Try.prog 15 #[] w fun e w' => e = .returned (.bool true) ∧ Below w.heap.size w w' := by
  have h1 : Bs (w.alloc (.cells #[.int .u8 0, .int .u8 1, .int .u8 242, .int .u8 3, .int .u8 244, .int .u8 245, .int .u8 246, .int .u8 247] 5)) (some ⟨w.heap.size, 0, none⟩) 8 8 [0, 1, 242, 3, 244, 245, 246, 247] := bs_lit (W := w) (e := 5) [0, 1, 242, 3, 244, 245, 246, 247] 8 rfl (by omega)
  have h2 : ∀ W : World, Bs (W.alloc (.cells #[.int .u8 1, .int .u8 2] 5)) (some ⟨W.heap.size, 0, none⟩) 2 2 [1, 2] := fun W => bs_lit (W := W) (e := 5) [1, 2] 2 rfl (by omega)
  have e1 : csum [0, 1, 242, 3, 244, 245, 246, 247] = 8717 := by decide
  have e2 : get16 [1, 2] 0 = 258 := by decide
  have e3 : ahead 1 4294967295 = 2 := by decide
  go_enter Try.func15, Try.ntmps15
  go_wp2_with (first
    | (go_at_call 17; refine (sum_any _ _ _ _ _ h1).mono ?_; rintro e w1 ⟨rfl, hB1⟩; replace hB1 : Below w.heap.size w w1 := below_then ((Below.refl _ w).alloc (Nat.le_refl _) _) hB1)
    | (go_at_call 24; refine (get16_any _ _ _ _ _ _ (h2 w1)).mono ?_; rintro e w2 ⟨rfl, ⟨nq, rfl⟩⟩)
    | (go_at_call 13; refine (ahead_any _ _ (by omega) (by omega) (by omega) (by omega) _).mono ?_; rintro e w3 ⟨rfl, rfl⟩))
  go_ret
  exact ⟨rfl, below_drewN (hB1.alloc hB1.size _) _⟩

theorem few_any (A : Option Addr) (n c : Nat) (l : List UInt8) (w : World) (hb : Bs w A n c l) :
    Calls Try.prog 16 #[.slice A n c] w fun e w' => ∃ A' n' c' l', e = .returned (.slice A' n' c') ∧ Bs w A' n' c' l' ∧ n' ≤ 5000 ∧ w = w' := by
  obtain ⟨i8, hi8, _, hs8, _⟩ := info_parts info_u8
  have hcap := hb.cap
  by_cases h : 5000 < n
  · have hcut : ∀ W, (Instr.slice 26 (.slice A n c) none (some (.int .i64 5000)) none).run Try.prog W = _ := fun W => cut_h Try.underlying26 hi8 hs8 A n c .i64 5000 (by omega) (by omega) W
    obtain ⟨A', n', c', eA, en, ec, hb2⟩ := hb.cutE (lo := 0) (hi := 5000) (by omega) (by omega)
    simp only [show (5000 : Int).toNat = 5000 from rfl, eA, en, ec] at hcut
    clear eA en ec
    go_enter Try.func16, Try.ntmps16
    go_wp2
    go_ret
    exact ⟨_, _, _, _, rfl, hb2, by have := hb2.len; simp at this; omega, rfl⟩
  · go_enter Try.func16, Try.ntmps16
    go_wp2
    go_ret
    exact ⟨_, _, _, _, rfl, hb, by omega, rfl⟩
end Go.Proofs.Ythbcnlflkanahaa

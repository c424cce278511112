/- Bits of small numbers. -/
import Derived.Laws.BitsAllLaws
import Derived.Test.YtogbncpchmnbdaaBase
namespace Go.Proofs.Ytogbncpchmnbdaa
open Go.RowKit
theorem and_u8_15 {x : Int} (h0 : 0 ≤ x) (h1 : x ≤ 255) : bits .and .u8 x 15 = x % 16 := by
  obtain ⟨a, rfl⟩ := Int.eq_ofNat_of_zero_le h0
  have := u8_and_nat a 15 (by omega) (by omega)
  rw [show ((15 : Nat) : Int) = 15 from rfl] at this
  rw [this, Nat.and_two_pow_sub_one_eq_mod a 4]
  omega
theorem and_u16_low {x : Int} (h0 : 0 ≤ x) (h1 : x ≤ 65535) : bits .and .u16 x 16383 = x % 16384 := by
  obtain ⟨a, rfl⟩ := Int.eq_ofNat_of_zero_le h0
  have := u16_and_nat a 16383 (by omega) (by omega)
  rw [show ((16383 : Nat) : Int) = 16383 from rfl] at this
  rw [this, Nat.and_two_pow_sub_one_eq_mod a 14]
  omega
theorem and_pow (a k : Nat) : a &&& 2 ^ k = a / 2 ^ k % 2 * 2 ^ k := by
  have hb : a.testBit k = decide (a / 2 ^ k % 2 = 1) := Nat.testBit_eq_decide_div_mod_eq
  apply Nat.eq_of_testBit_eq
  intro i
  rw [Nat.testBit_and, Nat.testBit_two_pow]
  have := Nat.mod_lt (a / 2 ^ k) (show 0 < 2 by omega)
  by_cases h : a / 2 ^ k % 2 = 1
  · rw [h, Nat.one_mul, Nat.testBit_two_pow]
    by_cases e : k = i
    · subst e; rw [hb, h]; simp
    · simp [e]
  · have h0 : a / 2 ^ k % 2 = 0 := by omega
    rw [h0, Nat.zero_mul, Nat.zero_testBit]
    by_cases e : k = i
    · subst e; rw [hb, h0]; simp
    · simp [e]
theorem and_u16_top {x : Int} (h0 : 0 ≤ x) (h1 : x ≤ 65535) : bits .and .u16 x 32768 = x / 32768 * 32768 := by
  obtain ⟨a, rfl⟩ := Int.eq_ofNat_of_zero_le h0
  have := u16_and_nat a 32768 (by omega) (by omega)
  rw [show ((32768 : Nat) : Int) = 32768 from rfl] at this
  rw [this, show (32768 : Nat) = 2 ^ 15 from rfl, and_pow]
  omega
end Go.Proofs.Ytogbncpchmnbdaa

import Derived.Test.YthbcnlflkanahaaLive1
namespace Go.Proofs.Ythbcnlflkanahaa
open Go.RowKit
set_option linter.unusedVariables false
theorem ahead_back {a b : Int} (a0 : 0 ≤ a) (a1 : a ≤ 4294967295) (b0 : 0 ≤ b) (b1 : b ≤ 4294967295) : (b + ahead a b % 4294967296) % 4294967296 = a := by
  unfold ahead; split <;> omega
theorem ahead_neg {a b : Int} (h : ahead a b ≠ -2147483648) : ahead b a = -(ahead a b) := by
  unfold ahead at *; split at h <;> split <;> omega
theorem ahead_lo (a b : Int) : -2147483648 ≤ ahead a b := by unfold ahead; split <;> omega
theorem ahead_hi (a b : Int) : ahead a b ≤ 2147483647 := by unfold ahead; split <;> omega

theorem wireAhead_walk (a : Int) (a0 : 0 ≤ a) (a1 : a ≤ 4294967295) (b : Int) (b0 : 0 ≤ b) (b1 : b ≤ 4294967295) (w : World) :
    Calls Try.prog 3 #[.int .u32 a, .int .u32 b] w fun e w' => e = .returned (.bool true) ∧ Below w.heap.size w w' := by
  have h1 := ahead_back a0 a1 b0 b1
  have h2 := ahead_lo a b
  have h3 := ahead_hi a b
  by_cases h : ahead a b = -2147483648
  · go_enter Try.func3, Try.ntmps3
    go_wp2_with (first
      | (go_at_call 13; refine (ahead_any _ _ a0 a1 b0 b1 _).mono ?_; rintro e w3 ⟨rfl, rfl⟩)
      | (go_at_call 14; refine (rahead_any _ _ a0 a1 b0 b1 _).mono ?_; rintro e w3 ⟨rfl, rfl⟩)
      | (go_at_call 15; refine (live1_any _).mono ?_; rintro e w4 ⟨rfl, hB⟩))
    go_ret
    exact ⟨rfl, hB⟩
  · have h4 := ahead_neg h
    go_enter Try.func3, Try.ntmps3
    go_wp2_with (first
      | (go_at_call 13; ((with_reducible refine (ahead_any a b a0 a1 b0 b1 _).mono ?_); rintro e w3 ⟨rfl, rfl⟩))
      | (go_at_call 13; ((with_reducible refine (ahead_any b a b0 b1 a0 a1 _).mono ?_); rintro e w3 ⟨rfl, rfl⟩))
      | (go_at_call 14; refine (rahead_any _ _ a0 a1 b0 b1 _).mono ?_; rintro e w3 ⟨rfl, rfl⟩)
      | (go_at_call 15; refine (live1_any _).mono ?_; rintro e w4 ⟨rfl, hB⟩))
    go_ret
    exact ⟨rfl, hB⟩
end Go.Proofs.Ythbcnlflkanahaa

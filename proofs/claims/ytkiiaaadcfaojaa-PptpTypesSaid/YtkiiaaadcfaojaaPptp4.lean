import Derived.Test.YtkiiaaadcfaojaaPptp3
namespace Go.Proofs.Ytkiiaaadcfaojaa
open Go.RowKit Go.MapKept
set_option linter.unusedVariables false

theorem size_any (t : Int) (w : World) :
    Calls Try.prog 13 #[.int .i64 t] w fun e w' => e = .returned (.int .i64 (szT t)) ∧ Below w.heap.size w w' := by
  have hlk := run_lay (W := w.alloc (.map (lays 5) 5)) (heap_alloc w _).1 t false
  simp only [if_false, Bool.false_eq_true] at hlk
  have hf : ∀ W, (Instr.field 45 (.agg #[.int .i64 (szT t), .int .i64 (caT t), .int .i64 (peT t), .int .i64 (reT t)]) 0).run Try.prog W = .ok (.int .i64 (szT t)) W := fun W => rfl
  go_enter Try.func13, Try.ntmps13
  go_wp2_with (go_at_call 22; ((with_reducible refine (layouts_any _).mono ?_); rintro e w9 ⟨rfl, rfl⟩))
  go_ret
  exact ⟨rfl, (Below.refl _ _).alloc (Nat.le_refl _) _⟩
theorem rsize_any (t : Int) (w : World) :
    Calls Try.prog 19 #[.int .i64 t] w fun e w' => e = .returned (.int .i64 (szT t)) ∧ w = w' := by
  have key : ∀ k : Int, t = k → (t == k) = true := fun k h => by simp [h]
  unfold szT
  by_cases h7 : t = 7
  · subst h7
    go_enter Try.func19, Try.ntmps19
    go_wp2
    go_ret
    exact ⟨rfl, rfl⟩
  · by_cases h8 : t = 8
    · subst h8
      go_enter Try.func19, Try.ntmps19
      go_wp2
      go_ret
      exact ⟨rfl, rfl⟩
    · by_cases h12 : t = 12
      · subst h12
        go_enter Try.func19, Try.ntmps19
        go_wp2
        go_ret
        exact ⟨rfl, rfl⟩
      · by_cases h13 : t = 13
        · subst h13
          go_enter Try.func19, Try.ntmps19
          go_wp2
          go_ret
          exact ⟨rfl, rfl⟩
        · by_cases h15 : t = 15
          · subst h15
            go_enter Try.func19, Try.ntmps19
            go_wp2
            go_ret
            exact ⟨rfl, rfl⟩
          · rw [if_neg h7, if_neg h8, if_neg h12, if_neg h13, if_neg h15]
            have g7 : (t == 7) = false := by simpa using h7
            have g8 : (t == 8) = false := by simpa using h8
            have g12 : (t == 12) = false := by simpa using h12
            have g13 : (t == 13) = false := by simpa using h13
            have g15 : (t == 15) = false := by simpa using h15
            clear h7 h8 h12 h13 h15 key
            go_enter Try.func19, Try.ntmps19
            go_wp2
            go_ret
            exact ⟨rfl, rfl⟩
/-- What the table of layouts is, in a world. -/
def isM : World → Value → Prop := fun w v => ∃ r, v = .map (some r) ∧ w.heap[r]? = some (.map (lays 5) 5)
theorem st_isM : ∀ w w' v, isM w v → Below w.heap.size w w' → isM w' v := fun w w' v ⟨r, h, k⟩ hb => ⟨r, h, by
  have hr : r < w.heap.size := by
    rcases Nat.lt_or_ge r w.heap.size with h | h
    · exact h
    · rw [Array.getElem?_eq_none h] at k; cases k
  rw [hb.block r hr]; exact k⟩
theorem placeC_any (a b c d : Int) (w : World) :
    Calls Try.prog 27 #[.agg #[.int .i64 a, .int .i64 b, .int .i64 c, .int .i64 d]] w fun e w' => e = .returned (.int .i64 b) ∧ Below w.heap.size w w' := by
  go_enter Try.func27, Try.ntmps27
  go_wp2
  go_ret
  exact ⟨rfl, (Below.refl _ _).alloc (Nat.le_refl _) _⟩
theorem placeP_any (a b c d : Int) (w : World) :
    Calls Try.prog 29 #[.agg #[.int .i64 a, .int .i64 b, .int .i64 c, .int .i64 d]] w fun e w' => e = .returned (.int .i64 c) ∧ Below w.heap.size w w' := by
  go_enter Try.func29, Try.ntmps29
  go_wp2
  go_ret
  exact ⟨rfl, (Below.refl _ _).alloc (Nat.le_refl _) _⟩
end Go.Proofs.Ytkiiaaadcfaojaa

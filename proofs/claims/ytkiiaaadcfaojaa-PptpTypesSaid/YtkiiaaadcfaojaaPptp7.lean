import Derived.Test.YtkiiaaadcfaojaaPptp6
import Derived.Test.YtkiiaaadcfaojaaPptp4
import Derived.Test.YtkiiaaadcfaojaaRef1
namespace Go.Proofs.Ytkiiaaadcfaojaa
open Go.RowKit
set_option linter.unusedVariables false
set_option maxHeartbeats 1000000

theorem rparse_bad (A : Option Addr) (n c : Nat) (l : List UInt8) (w : World) (hb : Bs w A n c l) (h : 12 ≤ n) (hh : ¬ (headB l n = true ∧ n ≤ 65535)) :
    Calls Try.prog 11 #[.slice A n c] w fun e w' => e = .returned (.tuple #[pM l, .int .i64 (pE l)]) ∧ Below w.heap.size w w' := by
  have hE : pE l = 4 := by unfold pE; rw [hb.len, if_neg (by omega), if_neg hh]
  rw [pM_bad (by omega), hE]
  rw [head_ref hb.len h] at hh
  have p1 : ¬ (n : Int) < 12 := by omega
  have hb1 : Bs (w.alloc (.cells #[.int .i64 0, .int .u16 0, .int .u16 0, .int .u8 0] 29)) A n c l := hb.alloc _
  clear hE
  have hsd : ∀ (W : World) (d : Nat) (p : Addr) (v : Value), (W.drewN d).setCell p v = (W.setCell p v).drewN d := setCell_drewN
  obtain ⟨x0, hx0⟩ : ∃ x, get16 l 0 = x := ⟨_, rfl⟩
  obtain ⟨x2, hx2⟩ : ∃ x, get16 l 2 = x := ⟨_, rfl⟩
  obtain ⟨x4, hx4⟩ : ∃ x, get32 l 4 = x := ⟨_, rfl⟩
  obtain ⟨x10, hx10⟩ : ∃ x, get16 l 10 = x := ⟨_, rfl⟩
  have b0 : 0 ≤ x0 := by rw [← hx0]; exact get16_lo l 0
  have b1 : x0 ≤ 65535 := by rw [← hx0]; exact get16_hi l 0
  have bw : wrap64 x0 = x0 := by unfold wrap64; omega
  rw [hx0, hx2, hx4, hx10] at hh
  by_cases h0 : x0 = n
  · have h0' : (x0 != n) = false := by simpa using h0
    by_cases h2 : x2 = 1
    · have h2' : (x2 != 1) = false := by simpa using h2
      by_cases h4 : x4 = 439041101
      · have h4' : (x4 != 439041101) = false := by simpa using h4
        have h10' : (x10 != 0) = true := by
          have : x10 ≠ 0 := fun h => hh ⟨h0, h2, h4, h⟩
          simpa using this
        clear h0 h2 h4 hh
        go_enter Try.func11, Try.ntmps11
        go_wp2_with (first
          | (go_at_call 24; ((with_reducible refine (rget16_any A n c l 0 _ hb1).mono ?_); rintro e w2 ⟨rfl, ⟨⟨d2, rfl⟩⟩⟩))
          | (go_at_call 24; ((with_reducible refine (rget16_any A n c l 2 _ (hb1.drewN _)).mono ?_); rintro e w3 ⟨rfl, ⟨⟨d3, rfl⟩⟩⟩))
          | (go_at_call 25; ((with_reducible refine (rget32_any A n c l 4 _ (hb1.drewN _)).mono ?_); rintro e w4 ⟨rfl, ⟨⟨d4, rfl⟩⟩⟩))
          | (go_at_call 24; ((with_reducible refine (rget16_any A n c l 10 _ (hb1.drewN _)).mono ?_); rintro e w5 ⟨rfl, ⟨⟨d5, rfl⟩⟩⟩)))
        refine bodyPost_ret (v := .tuple #[.agg #[.int .i64 0, .int .u16 0, .int .u16 0, .int .u8 0], .int .i64 4]) (by simp [results, Try.results11, go_sem]) rfl ⟨rfl, ?_⟩
        (repeat (first | with_reducible exact Below.refl _ _ | with_reducible refine below_drew ?_ | with_reducible refine below_drewN ?_ _ | with_reducible refine below_alloc ?_ (Nat.le_refl _) _ | with_reducible refine Below.setCell ?_ (by first | exact Nat.le_refl _ | (simp only []; omega)) _ | with_reducible assumption))
      · have h4' : (x4 != 439041101) = true := by simpa using h4
        clear h0 h2 h4 hh
        go_enter Try.func11, Try.ntmps11
        go_wp2_with (first
          | (go_at_call 24; ((with_reducible refine (rget16_any A n c l 0 _ hb1).mono ?_); rintro e w2 ⟨rfl, ⟨⟨d2, rfl⟩⟩⟩))
          | (go_at_call 24; ((with_reducible refine (rget16_any A n c l 2 _ (hb1.drewN _)).mono ?_); rintro e w3 ⟨rfl, ⟨⟨d3, rfl⟩⟩⟩))
          | (go_at_call 25; ((with_reducible refine (rget32_any A n c l 4 _ (hb1.drewN _)).mono ?_); rintro e w4 ⟨rfl, ⟨⟨d4, rfl⟩⟩⟩))
          | (go_at_call 24; ((with_reducible refine (rget16_any A n c l 10 _ (hb1.drewN _)).mono ?_); rintro e w5 ⟨rfl, ⟨⟨d5, rfl⟩⟩⟩)))
        refine bodyPost_ret (v := .tuple #[.agg #[.int .i64 0, .int .u16 0, .int .u16 0, .int .u8 0], .int .i64 4]) (by simp [results, Try.results11, go_sem]) rfl ⟨rfl, ?_⟩
        (repeat (first | with_reducible exact Below.refl _ _ | with_reducible refine below_drew ?_ | with_reducible refine below_drewN ?_ _ | with_reducible refine below_alloc ?_ (Nat.le_refl _) _ | with_reducible refine Below.setCell ?_ (by first | exact Nat.le_refl _ | (simp only []; omega)) _ | with_reducible assumption))
    · have h2' : (x2 != 1) = true := by simpa using h2
      clear h0 h2 hh
      go_enter Try.func11, Try.ntmps11
      go_wp2_with (first
        | (go_at_call 24; ((with_reducible refine (rget16_any A n c l 0 _ hb1).mono ?_); rintro e w2 ⟨rfl, ⟨⟨d2, rfl⟩⟩⟩))
        | (go_at_call 24; ((with_reducible refine (rget16_any A n c l 2 _ (hb1.drewN _)).mono ?_); rintro e w3 ⟨rfl, ⟨⟨d3, rfl⟩⟩⟩))
        | (go_at_call 25; ((with_reducible refine (rget32_any A n c l 4 _ (hb1.drewN _)).mono ?_); rintro e w4 ⟨rfl, ⟨⟨d4, rfl⟩⟩⟩))
        | (go_at_call 24; ((with_reducible refine (rget16_any A n c l 10 _ (hb1.drewN _)).mono ?_); rintro e w5 ⟨rfl, ⟨⟨d5, rfl⟩⟩⟩)))
      refine bodyPost_ret (v := .tuple #[.agg #[.int .i64 0, .int .u16 0, .int .u16 0, .int .u8 0], .int .i64 4]) (by simp [results, Try.results11, go_sem]) rfl ⟨rfl, ?_⟩
      (repeat (first | with_reducible exact Below.refl _ _ | with_reducible refine below_drew ?_ | with_reducible refine below_drewN ?_ _ | with_reducible refine below_alloc ?_ (Nat.le_refl _) _ | with_reducible refine Below.setCell ?_ (by first | exact Nat.le_refl _ | (simp only []; omega)) _ | with_reducible assumption))
  · have h0' : (x0 != n) = true := by simpa using h0
    clear h0 hh
    go_enter Try.func11, Try.ntmps11
    go_wp2_with (go_at_call 24; ((with_reducible refine (rget16_any A n c l 0 _ hb1).mono ?_); rintro e w2 ⟨rfl, ⟨⟨d2, rfl⟩⟩⟩))
    refine bodyPost_ret (v := .tuple #[.agg #[.int .i64 0, .int .u16 0, .int .u16 0, .int .u8 0], .int .i64 4]) (by simp [results, Try.results11, go_sem]) rfl ⟨rfl, ?_⟩
    (repeat (first | with_reducible exact Below.refl _ _ | with_reducible refine below_drew ?_ | with_reducible refine below_drewN ?_ _ | with_reducible refine below_alloc ?_ (Nat.le_refl _) _ | with_reducible refine Below.setCell ?_ (by first | exact Nat.le_refl _ | (simp only []; omega)) _ | with_reducible assumption))
theorem rparse_short (A : Option Addr) (n c : Nat) (l : List UInt8) (w : World) (hb : Bs w A n c l) (h : n < 12) :
    Calls Try.prog 11 #[.slice A n c] w fun e w' => e = .returned (.tuple #[pM l, .int .i64 (pE l)]) ∧ Below w.heap.size w w' := by
  have hE : pE l = 3 := by unfold pE; rw [if_pos (by rw [hb.len]; exact h)]
  rw [pM_bad (by omega), hE]
  have p1 : (n : Int) < 12 := by omega
  clear hE
  go_enter Try.func11, Try.ntmps11
  go_wp2_with fail
  exact bodyPost_ret (v := .tuple #[.agg #[.int .i64 0, .int .u16 0, .int .u16 0, .int .u8 0], .int .i64 3]) (by simp [results, Try.results11, go_sem]) rfl ⟨rfl, (Below.refl _ _).alloc (Nat.le_refl _) _⟩
end Go.Proofs.Ytkiiaaadcfaojaa

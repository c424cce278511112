/- ctrl.IsError, by slices.Contains. -/
import Derived.Test.YtogbncpchmnbdaaMsg
namespace Go.Proofs.Ytogbncpchmnbdaa
open Go.RowKit
set_option linter.unusedVariables false
set_option linter.unusedSimpArgs false
set_option maxHeartbeats 4000000
set_option maxRecDepth 100000

/-- Is the byte among the first n? -/
def hasB (l : List UInt8) (n : Nat) (v : Int) : Bool := decide (∃ j, j < n ∧ bt l j = v)
theorem hasB_iff (l : List UInt8) (n : Nat) (v : Int) : hasB l n v = true ↔ ∃ j, j < n ∧ bt l j = v := by simp [hasB]
theorem index_any (A : Option Addr) (n c : Nat) (l : List UInt8) (v : Int) (w : World) (hb : Bs w A n c l) :
    Calls Try.prog 66 #[.slice A n c, .int .u8 v] w fun e w' => (∃ r : Int, e = .returned (.int .i64 r) ∧ decide (0 ≤ r) = hasB l n v) ∧ w = w' := by
  have hmax := hb.max
  go_enter Try.func66, Try.ntmps66
  go_wp2_with fail
  go_loop [8] (fun i => ∃ k : Nat, k ≤ n ∧ i = .int .i64 k ∧ Hid (∀ j, j < k → bt l j ≠ v)) (fun i => n - (intOf i).toNat)
  case atStart => exact ⟨0, by omega, rfl, fun j hj => by omega⟩
  case round =>
    obtain ⟨k, hk, rfl, hno⟩ := hrel
    by_cases hlt : k < n
    · obtain ⟨g, o, rfl, hc⟩ := hb.rd (by omega)
      have ck := hc k hlt
      have hki : (k : Int) < n := by omega
      clear hc
      by_cases hv : bt l k = v
      · have hv' : (v == bt l k) = true := by simp [hv]
        have HV := Lib.hid hv
        clear hv
        go_wp2_with fail
        go_ret
        exact ⟨⟨_, rfl, by rw [decide_eq_true (show (0 : Int) ≤ k by omega)]; exact ((hasB_iff l n v).2 ⟨k, hlt, HV.out⟩).symm⟩, rfl⟩
      · have hv' : (v == bt l k) = false := by simp; exact fun e => hv e.symm
        have HV := Lib.hid hv
        clear hv
        go_wp2_with fail
        exact ⟨⟨k + 1, by omega, by go_num, fun j hj => by
          by_cases e : j = k
          · subst e; exact HV.out
          · exact hno.out j (by omega)⟩, by simp [intOf]; omega⟩
    · obtain rfl : k = n := by omega
      go_wp2_with fail
      go_ret
      refine ⟨⟨_, rfl, ?_⟩, rfl⟩
      have h1 : hasB l k v = false := by
        cases h : hasB l k v with
        | false => rfl
        | true =>
          obtain ⟨j, hj, e⟩ := (hasB_iff l k v).1 h
          exact absurd e (hno.out j hj)
      rw [h1]
      rfl
theorem contains_any (A : Option Addr) (n c : Nat) (l : List UInt8) (v : Int) (w : World) (hb : Bs w A n c l) :
    Calls Try.prog 48 #[.slice A n c, .int .u8 v] w fun e w' => e = .returned (.bool (hasB l n v)) ∧ w = w' := by
  go_enter Try.func48, Try.ntmps48
  go_wp2_with (go_at_call 66; ((with_reducible refine (index_any A n c l v _ hb).mono ?_); rintro e w1 ⟨⟨r, rfl, hr⟩, rfl⟩))
  go_ret
  exact ⟨rfl, rfl⟩
theorem iserr_any (m : Msg) (A1 : Option Addr) (n1 c1 : Nat) (w : World) :
    Calls Try.prog 24 #[(.agg #[.int .u8 (m).ty, .int .u8 (m).code, .int .u32 (m).rest, .slice A1 n1 c1])] w fun e w' => e = .returned (.bool (isErrM m)) ∧ Below w.heap.size w w' := by
  have hl : ∀ W : World, Bs (W.alloc (.cells #[.int .u8 3, .int .u8 11, .int .u8 12] 5)) (some ⟨W.heap.size, 0, none⟩) 3 3 [3, 11, 12] := fun W => bs_lit [3, 11, 12] 3 rfl (by omega)
  have he : hasB [3, 11, 12] 3 m.ty = isErrM m := by
    rw [Bool.eq_iff_iff, hasB_iff]
    unfold isErrM
    simp only [Bool.or_eq_true, beq_iff_eq]
    constructor
    · rintro ⟨j, hj, e⟩
      have : j = 0 ∨ j = 1 ∨ j = 2 := by omega
      rcases this with rfl | rfl | rfl
      · exact .inl (.inl e.symm)
      · exact .inl (.inr e.symm)
      · exact .inr e.symm
    · rintro ((e | e) | e)
      · exact ⟨0, by omega, e.symm⟩
      · exact ⟨1, by omega, e.symm⟩
      · exact ⟨2, by omega, e.symm⟩
  have HE := Lib.hid he
  clear he
  obtain ⟨w1, hw1⟩ : ∃ w1, w.alloc (.cells #[.int .u8 (m).ty, .int .u8 (m).code, .int .u32 (m).rest, .slice A1 n1 c1] 28) = w1 := ⟨_, rfl⟩
  have P1 : Blk w1 w.heap.size #[.int .u8 (m).ty, .int .u8 (m).code, .int .u32 (m).rest, .slice A1 n1 c1] 28 := by rw [← hw1]; exact blk_new w _ _ _ rfl
  have R1 : Below w.heap.size w w1 := by rw [← hw1]; (repeat (first | with_reducible exact Below.refl _ _ | with_reducible refine below_drew ?_ | with_reducible refine below_drewN ?_ _ | with_reducible refine below_alloc ?_ (Nat.le_refl _) _ | with_reducible refine Below.setCell ?_ (by first | exact Nat.le_refl _ | (simp only []; omega)) _ | with_reducible assumption))
  have pl := P1.lt
  have pc := P1.cell
  go_enter Try.func24, Try.ntmps24
  go_wp2_with (go_at_call 48; ((with_reducible refine (contains_any _ 3 3 [3, 11, 12] m.ty _ (hl _)).mono ?_); rintro e w2 ⟨rfl, rfl⟩))
  go_ret
  exact ⟨by rw [HE.out]; rfl, below_alloc R1 (Nat.le_refl _) _⟩
end Go.Proofs.Ytogbncpchmnbdaa

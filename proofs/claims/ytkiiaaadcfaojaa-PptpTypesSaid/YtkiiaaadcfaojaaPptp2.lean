import Derived.Test.YtkiiaaadcfaojaaPptp1
import Derived.Deep.CutRange
import Derived.WalkSpells
namespace Go.Proofs.Ytkiiaaadcfaojaa
open Go.RowKit Go.MapKept
set_option linter.unusedVariables false
set_option maxHeartbeats 4000000

def atP (l : List UInt8) (p : Int) : Int := if p = 0 then 0 else get16 l p
theorem at_any (A : Option Addr) (n c : Nat) (l : List UInt8) (p : Int) (w : World) (hb : Bs w A n c l) :
    Calls Try.prog 23 #[.slice A n c, .int .i64 p] w fun e w' => e = .returned (.int .u16 (atP l p)) ∧ Drawn w w' := by
  unfold atP
  go_enter Try.func23, Try.ntmps23
  by_cases h : p = 0
  · have h' : (p == 0) = true := by simpa using h
    rw [if_pos h]
    go_wp2_with fail
    go_ret
    exact ⟨rfl, Drawn.refl _⟩
  · have h' : (p == 0) = false := by simpa using h
    rw [if_neg h]
    go_wp2_with (go_at_call 21; ((with_reducible refine (get16_any A n c l p w hb).mono ?_); rintro e w1 ⟨rfl, hD⟩))
    go_ret
    exact ⟨rfl, hD⟩
theorem setCell_drewN (W : World) (d : Nat) (p : Addr) (v : Value) : (W.drewN d).setCell p v = (W.setCell p v).drewN d := rfl
theorem fold_two {X Y : World} {d : Nat} {p q : Addr} {u v : Value} (h : (X.setCell p u).setCell q v = Y) : ∃ d3, ((X.drewN d).setCell p u).setCell q v = Y.drewN d3 := ⟨d, by rw [setCell_drewN, setCell_drewN, h]⟩
/-- What is parsed: the error, and the message's parts. -/
def pE (l : List UInt8) : Int :=
  if l.length < 12 then 3 else if headB l l.length = true ∧ l.length ≤ 65535 then (if szT (get16 l 8) = 0 then 12 else if szT (get16 l 8) = l.length then 0 else 4) else 4
def pT (l : List UInt8) : Int := if pE l = 0 then get16 l 8 else 0
def pC (l : List UInt8) : Int := if pE l = 0 then atP l (caT (get16 l 8)) else 0
def pP (l : List UInt8) : Int := if pE l = 0 then atP l (peT (get16 l 8)) else 0
def pR (l : List UInt8) : Int := if pE l = 0 then (if 0 < reT (get16 l 8) then bt l (reT (get16 l 8)).toNat else 0) else 0
def pM (l : List UInt8) : Value := .agg #[.int .i64 (pT l), .int .u16 (pC l), .int .u16 (pP l), .int .u8 (pR l)]
theorem pM_bad {l : List UInt8} (h : pE l ≠ 0) : pM l = .agg #[.int .i64 0, .int .u16 0, .int .u16 0, .int .u8 0] := by
  unfold pM pT pC pP pR
  rw [if_neg h, if_neg h, if_neg h, if_neg h]

theorem parse_short (A : Option Addr) (n c : Nat) (l : List UInt8) (w : World) (hb : Bs w A n c l) (h : n < 12) :
    Calls Try.prog 10 #[.slice A n c] w fun e w' => e = .returned (.tuple #[pM l, .int .i64 (pE l)]) ∧ Below w.heap.size w w' := by
  have hE : pE l = 3 := by unfold pE; rw [if_pos (by rw [hb.len]; exact h)]
  rw [pM_bad (by omega), hE]
  have p1 : (n : Int) < 12 := by omega
  go_enter Try.func10, Try.ntmps10
  go_wp2_with fail
  exact bodyPost_ret (v := .tuple #[.agg #[.int .i64 0, .int .u16 0, .int .u16 0, .int .u8 0], .int .i64 3]) (by simp [results, Try.results10, go_sem]) rfl ⟨rfl, (Below.refl _ _).alloc (Nat.le_refl _) _⟩

section
variable (b off n c : Nat) (l : List UInt8) (w : World) (hb : Bs w (some ⟨b, off, none⟩) n c l) (h : 12 ≤ n)
include hb h
theorem parse_form (hh : ¬ (headB l n = true ∧ n ≤ 65535)) :
    Calls Try.prog 10 #[.slice (some ⟨b, off, none⟩) n c] w fun e w' => e = .returned (.tuple #[pM l, .int .i64 (pE l)]) ∧ Below w.heap.size w w' := by
  have hE : pE l = 4 := by unfold pE; rw [hb.len, if_neg (by omega), if_neg hh]
  rw [pM_bad (by omega), hE]
  have hcap := hb.cap
  have p1 : ¬ (n : Int) < 12 := by omega
  have hc12 : (12 : Int) ≤ c := by omega
  have harr : ∀ W, (Instr.arrayAt 42 (.slice (some ⟨b, off, none⟩) 12 c)).run Try.prog W = .ok (.pointer (some ⟨b, off, none⟩)) W := by
    intro W
    simp [Instr.arrayAt, run_underlying Try.underlying42, Result.andThen]
  have hbw : Bs (w.alloc (.cells #[.int .i64 0, .int .u16 0, .int .u16 0, .int .u8 0] 25)) (some ⟨b, off, none⟩) n c l := hb.alloc _
  obtain ⟨b', off', hbo, K⟩ := hbw.rd (by omega)
  obtain ⟨rfl, rfl⟩ : b' = b ∧ off' = off := by simpa using hbo.symm
  have k0 := K 0 (by omega)
  have k1 := K 1 (by omega)
  have k2 := K 2 (by omega)
  have k3 := K 3 (by omega)
  have k4 := K 4 (by omega)
  have k5 := K 5 (by omega)
  have k6 := K 6 (by omega)
  have k7 := K 7 (by omega)
  have k8 := K 8 (by omega)
  have k9 := K 9 (by omega)
  have k10 := K 10 (by omega)
  have k11 := K 11 (by omega)
  simp only [Nat.add_zero] at k0
  clear K hbo
  have heq := eq_head l n
  cases hd : headB l n with
  | false =>
    simp only [hd] at heq
    clear hh
    go_enter Try.func10, Try.ntmps10
    go_wp2_with fail
    exact bodyPost_ret (v := .tuple #[.agg #[.int .i64 0, .int .u16 0, .int .u16 0, .int .u8 0], .int .i64 4]) (by simp [results, Try.results10, go_sem]) rfl ⟨rfl, ((Below.refl _ _).alloc (Nat.le_refl _) _).alloc (by simp) _⟩
  | true =>
    simp only [hd] at heq
    have p2 : 65535 < (n : Int) := by
      rw [hd] at hh
      simp at hh
      omega
    clear hh
    go_enter Try.func10, Try.ntmps10
    go_wp2_with fail
    exact bodyPost_ret (v := .tuple #[.agg #[.int .i64 0, .int .u16 0, .int .u16 0, .int .u8 0], .int .i64 4]) (by simp [results, Try.results10, go_sem]) rfl ⟨rfl, ((Below.refl _ _).alloc (Nat.le_refl _) _).alloc (by simp) _⟩
end
end Go.Proofs.Ytkiiaaadcfaojaa

/- The reference's head test is the head test. -/
import Derived.Test.YtkiiaaadcfaojaaPptp2
namespace Go.Proofs.Ytkiiaaadcfaojaa
open Go.RowKit

theorem get16_bt {l : List UInt8} {k : Nat} (h : k + 2 ≤ l.length) : get16 l (k : Int) = bt l k * 256 + bt l (k + 1) := by
  rw [get16_in (by omega) (by omega), show ((k : Nat) : Int).toNat = k from by omega]
theorem head_ref {l : List UInt8} {n : Nat} (hl : l.length = n) (h : 12 ≤ n) :
    (headB l n = true ∧ n ≤ 65535) ↔ (get16 l 0 = n ∧ get16 l 2 = 1 ∧ get32 l 4 = 439041101 ∧ get16 l 10 = 0) := by
  have g0 : get16 l 0 = bt l 0 * 256 + bt l 1 := get16_bt (l := l) (k := 0) (by omega)
  have g2 : get16 l 2 = bt l 2 * 256 + bt l 3 := get16_bt (l := l) (k := 2) (by omega)
  have g4 : get16 l 4 = bt l 4 * 256 + bt l 5 := get16_bt (l := l) (k := 4) (by omega)
  have g6 : get16 l 6 = bt l 6 * 256 + bt l 7 := get16_bt (l := l) (k := 6) (by omega)
  have g10 : get16 l 10 = bt l 10 * 256 + bt l 11 := get16_bt (l := l) (k := 10) (by omega)
  have e4 : get32 l 4 = get16 l 4 * 65536 + get16 l 6 := get32_in (by omega) (by omega)
  rw [e4]
  have L := fun i => bt_lo l i
  have H := fun i => bt_hi l i
  have := L 0; have := L 1; have := L 2; have := L 3; have := L 4; have := L 5; have := L 6; have := L 7; have := L 10; have := L 11
  have := H 0; have := H 1; have := H 2; have := H 3; have := H 4; have := H 5; have := H 6; have := H 7; have := H 10; have := H 11
  unfold headB
  rw [decide_eq_true_eq]
  constructor
  · rintro ⟨⟨h0, h1, h2, h3, h4, h5, h6, h7, h10, h11⟩, hn⟩
    refine ⟨?_, ?_, ?_, ?_⟩ <;> omega
  · rintro ⟨h0, h1, h2, h3⟩
    refine ⟨⟨?_, ?_, ?_, ?_, ?_, ?_, ?_, ?_, ?_, ?_⟩, ?_⟩ <;> omega
end Go.Proofs.Ytkiiaaadcfaojaa

/- Plain laws of changed bytes. -/
import Derived.Test.YtogbncpchmnbdaaMath2
import Derived.Test.YtogbncpchmnbdaaWire
namespace Go.Proofs.Ytogbncpchmnbdaa
open Go.RowKit
set_option linter.unusedVariables false
set_option maxRecDepth 100000

theorem put16_append {a b : List UInt8} {i : Nat} {v : Int} (h : i + 2 ≤ a.length) : put16 (a ++ b) i v = put16 a i v ++ b := by
  rw [put16_eq (by rw [List.length_append]; omega), put16_eq h, List.set_append_left _ _ (by omega), List.set_append_left _ _ (by rw [List.length_set]; omega)]
theorem put16_take {l : List UInt8} {i k : Nat} {v : Int} (h : i + 2 ≤ k) (hk : k ≤ l.length) : (put16 l i v).take k = put16 (l.take k) i v := by
  rw [put16_eq (by omega), put16_eq (by rw [List.length_take]; omega), List.take_set, List.take_set]
theorem csum_zero (l : List UInt8) : csum l = 0 ↔ ws l ≠ 0 ∧ ws l % 65535 = 0 := by
  have := ws_lo l
  unfold csum fd
  split <;> omega
theorem wd_set {l : List UInt8} {j : Nat} {b : UInt8} (h : j < l.length) (k : Nat) : wd (l.set j b) k = wd l k + if j / 2 = k then (if j % 2 = 0 then ((b.toNat : Int) - bt l j) * 256 else (b.toNat : Int) - bt l j) else 0 := by
  unfold wd
  rw [bt_set, bt_set]
  by_cases e : j / 2 = k
  · rw [if_pos e]
    by_cases e2 : j % 2 = 0
    · have e3 : j = 2 * k := by omega
      subst e3
      rw [if_pos e2, if_pos ⟨rfl, h⟩, if_neg (by omega)]; omega
    · have e3 : j = 2 * k + 1 := by omega
      subst e3
      rw [if_neg e2, if_neg (by omega), if_pos ⟨rfl, h⟩]; omega
  · rw [if_neg e, if_neg (by omega), if_neg (by omega)]; omega
theorem wsK_set {l : List UInt8} {j : Nat} {b : UInt8} (h : j < l.length) (k : Nat) : wsK (l.set j b) k = wsK l k + if j / 2 < k then (if j % 2 = 0 then ((b.toNat : Int) - bt l j) * 256 else (b.toNat : Int) - bt l j) else 0 := by
  induction k with
  | zero => simp [wsK]
  | succ k ih =>
    simp only [wsK]
    rw [ih, wd_set h]
    generalize (if j % 2 = 0 then ((b.toNat : Int) - bt l j) * 256 else (b.toNat : Int) - bt l j) = x
    by_cases e : j / 2 = k
    · rw [if_neg (by omega), if_pos e, if_pos (by omega)]; omega
    · by_cases e2 : j / 2 < k
      · rw [if_pos e2, if_neg e, if_pos (by omega)]; omega
      · rw [if_neg e2, if_neg e, if_neg (by omega)]; omega
theorem ws_set {l : List UInt8} {j : Nat} {b : UInt8} (h : j < l.length) : ws (l.set j b) = ws l + (if j % 2 = 0 then ((b.toNat : Int) - bt l j) * 256 else (b.toNat : Int) - bt l j) := by
  unfold ws
  rw [List.length_set, wsK_set h, if_pos (by omega)]
/-- A changed byte is told by the sum. -/
theorem csum_flip {l : List UInt8} {j : Nat} {b : UInt8} (h : j < l.length) (hb : (b.toNat : Int) ≠ bt l j) (hs : csum l = 0) : csum (l.set j b) ≠ 0 := by
  intro h2
  rw [csum_zero] at hs h2
  have h3 := ws_set (b := b) h
  have b1 := bt_lo l j
  have b2 := bt_hi l j
  have b3 : (b.toNat : Int) ≤ 255 := by have := b.toNat_lt; omega
  split at h3 <;> omega
theorem bt_take {l : List UInt8} {k i : Nat} (h : i < k) : bt (l.take k) i = bt l i := by
  unfold bt
  simp [List.getD_eq_getElem?_getD, List.getElem?_take, h]
theorem get16_take {l : List UInt8} {k i : Nat} (h : i + 2 ≤ k) (hk : k ≤ l.length) : get16 (l.take k) i = get16 l i := by
  rw [get16_in (by omega) (by rw [List.length_take]; omega), get16_in (by omega) (by omega), bt_take (by omega), bt_take (by omega)]
theorem flip_tab : ∀ (a : Fin 256) (r : Fin 8), 0 ≤ bits .xor .u8 (a.val : Int) (2 ^ r.val) ∧ bits .xor .u8 (a.val : Int) (2 ^ r.val) ≤ 255 ∧ bits .xor .u8 (a.val : Int) (2 ^ r.val) ≠ (a.val : Int) ∧ ((a.val : Int) / 16 = 4 → 4 ≤ r.val → bits .xor .u8 (a.val : Int) (2 ^ r.val) / 16 ≠ 4) := by decide +kernel
theorem flip_any {a r : Int} (a0 : 0 ≤ a) (a1 : a ≤ 255) (r0 : 0 ≤ r) (r1 : r < 8) : 0 ≤ bits .xor .u8 a (2 ^ r.toNat) ∧ bits .xor .u8 a (2 ^ r.toNat) ≤ 255 ∧ bits .xor .u8 a (2 ^ r.toNat) ≠ a ∧ (a / 16 = 4 → 4 ≤ r → bits .xor .u8 a (2 ^ r.toNat) / 16 ≠ 4) := by
  have h := flip_tab ⟨a.toNat, by omega⟩ ⟨r.toNat, by omega⟩
  have e : ((a.toNat : Nat) : Int) = a := by omega
  simp only [e] at h
  exact ⟨h.1, h.2.1, h.2.2.1, fun h1 h2 => h.2.2.2 h1 (by omega)⟩
theorem shl_any {r : Int} (r0 : 0 ≤ r) (r1 : r < 8) (W : World) : Sem.run Try.prog (Op.shift BinOp.shl IntKind.u8 1 IntKind.i64 r) W = .ok (.int .u8 (2 ^ r.toNat)) W := by
  have : r = 0 ∨ r = 1 ∨ r = 2 ∨ r = 3 ∨ r = 4 ∨ r = 5 ∨ r = 6 ∨ r = 7 := by omega
  rcases this with rfl | rfl | rfl | rfl | rfl | rfl | rfl | rfl <;> rfl
end Go.Proofs.Ytogbncpchmnbdaa

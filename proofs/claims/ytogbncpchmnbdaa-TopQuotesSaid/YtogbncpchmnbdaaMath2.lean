/- What was put is got back, and all else is as it was. -/
import Derived.Test.YtogbncpchmnbdaaMath1
namespace Go.Proofs.Ytogbncpchmnbdaa
open Go.RowKit

theorem bt_put16 {l : List UInt8} {i : Nat} {v : Int} (h : i + 2 ≤ l.length) (j : Nat) : bt (put16 l i v) j = if j = i then v / 256 % 256 else if j = i + 1 then v % 256 else bt l j := by
  rw [put16_eq h, bt_set, List.length_set, bt_set]
  simp only [ub_val]
  by_cases h1 : j = i
  · rw [if_neg (by omega), if_pos (by omega), if_pos h1]
  · by_cases h2 : j = i + 1
    · rw [if_pos (by omega), if_neg h1, if_pos h2]
    · rw [if_neg (by omega), if_neg (by omega), if_neg h1, if_neg h2]
theorem get16_put16 {l : List UInt8} {i : Nat} {v : Int} (v0 : 0 ≤ v) (v1 : v ≤ 65535) (h : i + 2 ≤ l.length) : get16 (put16 l i v) i = v := by
  rw [get16_in (by omega) (by rw [put16_length]; omega), show ((i : Nat) : Int).toNat = i from by omega, bt_put16 h, bt_put16 h]
  simp
  omega
theorem get16_put16_far {l : List UInt8} {i k : Nat} {v : Int} (h : i + 2 ≤ l.length) (hk : k + 2 ≤ l.length) (hf : k + 2 ≤ i ∨ i + 2 ≤ k) : get16 (put16 l i v) k = get16 l k := by
  rw [get16_in (by omega) (by rw [put16_length]; omega), get16_in (by omega) (by omega), show ((k : Nat) : Int).toNat = k from by omega, bt_put16 h, bt_put16 h]
  rw [if_neg (by omega), if_neg (by omega), if_neg (by omega), if_neg (by omega)]
theorem put32_two {l : List UInt8} {k : Nat} {v : Int} (h : k + 4 ≤ l.length) : put32 l k v = put16 (put16 l k (v / 65536)) ((k + 2 : Nat) : Int) (v % 65536) := by
  rw [put32_halves (by omega) (by omega)]
  congr 1
theorem bt_put32 {l : List UInt8} {k : Nat} {v : Int} (h : k + 4 ≤ l.length) (j : Nat) (hj : j < k ∨ k + 4 ≤ j) : bt (put32 l k v) j = bt l j := by
  rw [put32_two h, bt_put16 (by rw [put16_length]; omega), bt_put16 (by omega), if_neg (by omega), if_neg (by omega), if_neg (by omega), if_neg (by omega)]
theorem get16_put32_hi {l : List UInt8} {k : Nat} {v : Int} (v0 : 0 ≤ v) (v1 : v ≤ 4294967295) (h : k + 4 ≤ l.length) : get16 (put32 l k v) k = v / 65536 := by
  rw [put32_two h, get16_put16_far (by rw [put16_length]; omega) (by rw [put16_length]; omega) (by omega), get16_put16 (by omega) (by omega) (by omega)]
theorem get16_put32_lo {l : List UInt8} {k : Nat} {v : Int} (h : k + 4 ≤ l.length) : get16 (put32 l k v) ((k + 2 : Nat) : Int) = v % 65536 := by
  rw [put32_two h, get16_put16 (by omega) (by omega) (by rw [put16_length]; omega)]
theorem get32_put32 {l : List UInt8} {k : Nat} {v : Int} (v0 : 0 ≤ v) (v1 : v ≤ 4294967295) (h : k + 4 ≤ l.length) : get32 (put32 l k v) k = v := by
  rw [get32_in (by omega) (by rw [put32_length]; omega), get16_put32_hi v0 v1 h, show (k : Int) + 2 = ((k + 2 : Nat) : Int) from by omega, get16_put32_lo h]
  omega
end Go.Proofs.Ytogbncpchmnbdaa

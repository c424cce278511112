import Derived.Test.YtogbncpchmnbdaaBase
namespace Go.Proofs.Ytogbncpchmnbdaa
set_option linter.unusedVariables false

/-! Plain laws of check sums. -/
theorem bt_set (l : List UInt8) (i k : Nat) (b : UInt8) : bt (l.set i b) k = if i = k ∧ i < l.length then (b.toNat : Int) else bt l k := by
  unfold bt
  simp only [List.getD_eq_getElem?_getD, List.getElem?_set]
  by_cases h : i = k
  · subst h
    by_cases h2 : i < l.length
    · simp [h2]
    · simp [h2]
  · simp [h]
theorem bt_append_left {a : List UInt8} (b : List UInt8) {i : Nat} (h : i < a.length) : bt (a ++ b) i = bt a i := by
  unfold bt
  simp [List.getD_eq_getElem?_getD, List.getElem?_append_left h]
theorem bt_append_right (a b : List UInt8) (i : Nat) : bt (a ++ b) (a.length + i) = bt b i := by
  unfold bt
  rw [List.getD_eq_getElem?_getD, List.getD_eq_getElem?_getD, List.getElem?_append_right (by omega), Nat.add_sub_cancel_left]
theorem wd_append_left {a : List UInt8} (b : List UInt8) {m i : Nat} (hm : a.length = 2 * m) (h : i < m) : wd (a ++ b) i = wd a i := by
  unfold wd
  rw [bt_append_left b (by omega), bt_append_left b (by omega)]
theorem wd_append_right {a : List UInt8} (b : List UInt8) {m : Nat} (hm : a.length = 2 * m) (i : Nat) : wd (a ++ b) (m + i) = wd b i := by
  unfold wd
  have e1 : 2 * (m + i) = a.length + 2 * i := by omega
  have e2 : 2 * (m + i) + 1 = a.length + (2 * i + 1) := by omega
  rw [e2, e1, bt_append_right, bt_append_right]
theorem wsK_congr {l l' : List UInt8} : ∀ {k : Nat}, (∀ i, i < k → wd l i = wd l' i) → wsK l k = wsK l' k
  | 0, _ => rfl
  | k + 1, h => by
    simp only [wsK]
    rw [wsK_congr (k := k) (fun i hi => h i (by omega)), h k (by omega)]
theorem wsK_append {a : List UInt8} (b : List UInt8) {m : Nat} (hm : a.length = 2 * m) (k : Nat) : wsK (a ++ b) (m + k) = wsK a m + wsK b k := by
  induction k with
  | zero =>
    simp only [wsK, Nat.add_zero, Int.add_zero]
    exact wsK_congr fun i hi => wd_append_left b hm hi
  | succ k ih =>
    rw [← Nat.add_assoc]
    simp only [wsK]
    rw [ih, wd_append_right b hm]
    omega
theorem ws_append {a : List UInt8} (b : List UInt8) (h : a.length % 2 = 0) : ws (a ++ b) = ws a + ws b := by
  unfold ws
  have e : ((a ++ b).length + 1) / 2 = a.length / 2 + (b.length + 1) / 2 := by rw [List.length_append]; omega
  have e2 : (a.length + 1) / 2 = a.length / 2 := by omega
  rw [e, e2]
  exact wsK_append b (by omega) _
theorem wsK_more (l : List UInt8) (k : Nat) : wsK l ((l.length + 1) / 2 + k) = ws l := by
  induction k with
  | zero => rfl
  | succ k ih =>
    rw [← Nat.add_assoc]
    simp only [wsK]
    rw [ih]
    have : wd l ((l.length + 1) / 2 + k) = 0 := by
      unfold wd
      rw [bt_out (by omega), bt_out (by omega)]
      rfl
    omega
theorem bt_zs (n i : Nat) : bt (zs n) i = 0 := by
  unfold bt zs
  rw [List.getD_eq_getElem?_getD, List.getElem?_replicate]
  split <;> rfl
theorem ws_zs (n : Nat) : ws (zs n) = 0 := by
  unfold ws
  generalize ((zs n).length + 1) / 2 = k
  induction k with
  | zero => rfl
  | succ k ih =>
    simp only [wsK]
    rw [ih]
    unfold wd
    rw [bt_zs, bt_zs]
    rfl
theorem bt_zeros_behind (b : List UInt8) (n i : Nat) : bt (b ++ zs n) i = bt b i := by
  by_cases h : i < b.length
  · exact bt_append_left _ h
  · obtain ⟨k, rfl⟩ : ∃ k, i = b.length + k := ⟨i - b.length, by omega⟩
    rw [bt_append_right, bt_zs, bt_out (by omega)]
theorem ws_behind (b : List UInt8) (n : Nat) : ws (b ++ zs n) = ws b := by
  rw [← wsK_more b (((b ++ zs n).length + 1) / 2 - (b.length + 1) / 2)]
  have e : (b.length + 1) / 2 + (((b ++ zs n).length + 1) / 2 - (b.length + 1) / 2) = ((b ++ zs n).length + 1) / 2 := by rw [List.length_append]; omega
  rw [e]
  unfold ws
  exact wsK_congr fun i _ => by unfold wd; rw [bt_zeros_behind, bt_zeros_behind]
theorem ws_ahead (b : List UInt8) (n : Nat) : ws (zs (2 * n) ++ b) = ws b := by
  rw [ws_append b (by rw [zs_length]; omega), ws_zs]
  omega
theorem csum_order {a b : List UInt8} (ha : a.length % 2 = 0) (hb : b.length % 2 = 0) : csum (a ++ b) = csum (b ++ a) := by
  unfold csum
  rw [ws_append b ha, ws_append a hb, Int.add_comm]
theorem csum_behind (b : List UInt8) (n : Nat) : csum (b ++ zs n) = csum b := by unfold csum; rw [ws_behind]
theorem csum_ahead (b : List UInt8) (n : Nat) : csum (zs (2 * n) ++ b) = csum b := by unfold csum; rw [ws_ahead]

/-! A word changed. -/
theorem wd_put16 {l : List UInt8} {j : Nat} {v : Int} (v0 : 0 ≤ v) (v1 : v ≤ 65535) (h : 2 * j + 2 ≤ l.length) (i : Nat) : wd (put16 l (2 * j : Nat) v) i = if i = j then v else wd l i := by
  rw [put16_eq h]
  unfold wd
  simp only [bt_set, List.length_set]
  have u1 := ub_val (v / 256)
  have u2 := ub_val v
  by_cases e : i = j
  · subst e
    rw [if_neg (by omega), if_pos ⟨rfl, by omega⟩, if_pos ⟨rfl, by omega⟩, u1, u2, if_pos rfl]
    omega
  · rw [if_neg (by omega), if_neg (by omega), if_neg (by omega), if_neg (by omega), if_neg e]
theorem wsK_put16 {l : List UInt8} {j : Nat} {v : Int} (v0 : 0 ≤ v) (v1 : v ≤ 65535) (h : 2 * j + 2 ≤ l.length) (k : Nat) : wsK (put16 l (2 * j : Nat) v) k = wsK l k + if j < k then v - wd l j else 0 := by
  induction k with
  | zero => simp [wsK]
  | succ k ih =>
    simp only [wsK]
    rw [ih, wd_put16 v0 v1 h]
    by_cases e : k = j
    · subst e
      rw [if_neg (by omega), if_pos rfl, if_pos (by omega)]
      omega
    · rw [if_neg e]
      by_cases e2 : j < k
      · rw [if_pos e2, if_pos (by omega)]; omega
      · rw [if_neg e2, if_neg (by omega)]; omega
theorem ws_put16 {l : List UInt8} {j : Nat} {v : Int} (v0 : 0 ≤ v) (v1 : v ≤ 65535) (h : 2 * j + 2 ≤ l.length) : ws (put16 l (2 * j : Nat) v) = ws l - wd l j + v := by
  unfold ws
  rw [put16_length, wsK_put16 v0 v1 h, if_pos (by omega)]
  omega
theorem get16_wd {l : List UInt8} {j : Nat} (h : 2 * j + 2 ≤ l.length) : get16 l (2 * j : Nat) = wd l j := by
  rw [get16_in (by omega) (by omega)]
  unfold wd
  rw [Int.toNat_natCast]
theorem ws_lo (l : List UInt8) : 0 ≤ ws l := wsK_lo l _

/-- Bytes are good with their sum in a word of 0. -/
theorem good_put {z : List UInt8} {j : Nat} (h : 2 * j + 2 ≤ z.length) (h0 : wd z j = 0) : csum (put16 z (2 * j : Nat) (csum z)) = 0 := by
  have hw := ws_lo z
  have e := ws_put16 (csum_lo z) (csum_hi z) h
  unfold csum at *
  rw [e, h0]
  unfold fd
  split <;> split <;> omega
theorem wd_put16_same {l : List UInt8} {j : Nat} {v : Int} (v0 : 0 ≤ v) (v1 : v ≤ 65535) (h : 2 * j + 2 ≤ l.length) : wd (put16 l (2 * j : Nat) v) j = v := by rw [wd_put16 v0 v1 h, if_pos rfl]
theorem wd_put16_other {l : List UInt8} {i j : Nat} {v : Int} (v0 : 0 ≤ v) (v1 : v ≤ 65535) (h : 2 * j + 2 ≤ l.length) (e : i ≠ j) : wd (put16 l (2 * j : Nat) v) i = wd l i := by rw [wd_put16 v0 v1 h, if_neg e]

/-- Words of 0 alone have the sum 0, and no other words have. -/
theorem wd_zero_of_ws {l : List UInt8} (h : ws l = 0) {i : Nat} (hi : i < (l.length + 1) / 2) : wd l i = 0 := by
  have key : ∀ k, wsK l k = 0 → ∀ i, i < k → wd l i = 0 := by
    intro k
    induction k with
    | zero => intro _ i hi; omega
    | succ k ih =>
      intro hk i hi
      simp only [wsK] at hk
      have h1 := wsK_lo l k
      have h2 := wd_lo l k
      by_cases e : i = k
      · subst e; omega
      · exact ih (by omega) i (by omega)
  exact key _ h i hi
theorem bt_zero_of_ws {l : List UInt8} (h : ws l = 0) (i : Nat) : bt l i = 0 := by
  by_cases hi : i < l.length
  · have := wd_zero_of_ws h (i := i / 2) (by omega)
    unfold wd at this
    have h1 := bt_lo l (2 * (i / 2))
    have h2 := bt_lo l (2 * (i / 2) + 1)
    rcases Nat.mod_two_eq_zero_or_one i with e | e
    · have : i = 2 * (i / 2) := by omega
      rw [this]; omega
    · have : i = 2 * (i / 2) + 1 := by omega
      rw [this]; omega
  · exact bt_out (by omega)
/-- Good bytes whose sum at word j is patched where word m changes are good, unless all of them are 0 then. -/
theorem patched_good {b : List UInt8} {j m : Nat} {v : Int} (v0 : 0 ≤ v) (v1 : v ≤ 65535) (hj : 2 * j + 2 ≤ b.length) (hm : 2 * m + 2 ≤ b.length) (hjm : j ≠ m) (h0 : wd b j = 0)
    (hz : ∃ i, bt (put16 (put16 (put16 b (2 * j : Nat) (csum b)) (2 * m : Nat) v) (2 * j : Nat) (patch (csum b) (wd b m) v)) i ≠ 0) :
    csum (put16 (put16 (put16 b (2 * j : Nat) (csum b)) (2 * m : Nat) v) (2 * j : Nat) (patch (csum b) (wd b m) v)) = 0 := by
  obtain ⟨s, hs⟩ : ∃ s, csum b = s := ⟨_, rfl⟩
  rw [hs] at hz ⊢
  have s0 := csum_lo b
  have s1 := csum_hi b
  rw [hs] at s0 s1
  obtain ⟨q, hq⟩ : ∃ q, patch s (wd b m) v = q := ⟨_, rfl⟩
  rw [hq] at hz ⊢
  have q0 : 0 ≤ q ∧ q ≤ 65535 := by
    rw [← hq]; unfold patch
    have := fd_lo ((65535 - s) + (65535 - wd b m) + v)
    have := fd_hi ((65535 - s) + (65535 - wd b m) + v)
    omega
  have hw := ws_lo b
  have e1 : ws (put16 b (2 * j : Nat) s) = ws b + s := by rw [ws_put16 s0 s1 hj, h0]; omega
  have e2 : ws (put16 (put16 b (2 * j : Nat) s) (2 * m : Nat) v) = ws b + s - wd b m + v := by
    rw [ws_put16 v0 v1 (by rw [put16_length]; omega), wd_put16_other s0 s1 hj (Ne.symm hjm), e1]
  have e3 : ws (put16 (put16 (put16 b (2 * j : Nat) s) (2 * m : Nat) v) (2 * j : Nat) q) = ws b - wd b m + v + q := by
    rw [ws_put16 q0.1 q0.2 (by rw [put16_length, put16_length]; omega), wd_put16_other v0 v1 (by rw [put16_length]; omega) hjm, wd_put16_same s0 s1 hj, e2]
    omega
  have hne : ws (put16 (put16 (put16 b (2 * j : Nat) s) (2 * m : Nat) v) (2 * j : Nat) q) ≠ 0 := by
    intro h
    obtain ⟨i, hi⟩ := hz
    exact hi (bt_zero_of_ws h i)
  have hlo := ws_lo (put16 (put16 (put16 b (2 * j : Nat) s) (2 * m : Nat) v) (2 * j : Nat) q)
  unfold csum
  rw [e3] at hne hlo ⊢
  have hmw : wd b m ≤ ws b := by
    have := ws_put16 (l := b) (j := m) (v := 0) (by omega) (by omega) hm
    have := ws_lo (put16 b (2 * m : Nat) 0)
    omega
  have y0 := wd_lo b m
  have y1 := wd_hi b m
  unfold patch at hq
  unfold csum at hs
  generalize ws b = W at *
  generalize wd b m = M at *
  unfold fd at *
  split <;> split at hs <;> split at hq <;> omega
end Go.Proofs.Ytogbncpchmnbdaa

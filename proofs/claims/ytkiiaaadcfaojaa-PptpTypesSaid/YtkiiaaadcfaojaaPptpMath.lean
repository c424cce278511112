/- What PPTP's laws say, of plain lists. -/
import Derived.Test.YtkiiaaadcfaojaaPptp9
import Derived.Test.YtkiiaaadcfaojaaMath2
namespace Go.Proofs.Ytkiiaaadcfaojaa
open Go.RowKit
set_option linter.unusedVariables false

theorem ub_bt (l : List UInt8) {i : Nat} (h : i < l.length) {v : Int} (hv : v % 256 = bt l i) : ub v = l[i] := by
  have : bt l i = ((l[i]).toNat : Int) := by
    unfold bt; simp [List.getD_eq_getElem?_getD, List.getElem?_eq_getElem h]
  unfold ub
  rw [hv, this]
  simp
theorem set_self' {l : List UInt8} {i : Nat} {b : UInt8} (h : i < l.length) (hb : b = l[i]) : l.set i b = l := by
  subst hb
  simp
theorem put16_get16 {l : List UInt8} {k : Nat} (h : k + 2 ≤ l.length) : put16 l k (get16 l k) = l := by
  have h0 := bt_lo l k; have h1 := bt_hi l k; have h2 := bt_lo l (k + 1); have h3 := bt_hi l (k + 1)
  have e : get16 l k = bt l k * 256 + bt l (k + 1) := get16_bt h
  rw [put16_eq h, e]
  rw [set_self' (l := l) (i := k) (by omega) (ub_bt l (by omega) (by omega))]
  exact set_self' (by omega) (ub_bt l (by omega) (by omega))
theorem sz_cases {t : Int} (h : szT t ≠ 0) : (t = 8 ∧ caT t = 12 ∧ peT t = 14 ∧ reT t = 16 ∧ szT t = 32) ∨ (t = 15 ∧ caT t = 0 ∧ peT t = 12 ∧ reT t = 0 ∧ szT t = 24) ∨ (t ≠ 8 ∧ t ≠ 15 ∧ caT t = 12 ∧ peT t = 0 ∧ reT t = 0 ∧ 16 ≤ szT t) := by
  by_cases h8 : t = 8
  · subst h8; exact .inl ⟨rfl, rfl, rfl, rfl, rfl⟩
  · by_cases h15 : t = 15
    · subst h15; exact .inr (.inl ⟨rfl, rfl, rfl, rfl, rfl⟩)
    · refine .inr (.inr ⟨h8, h15, sz_call h h15, ?_, ?_, ?_⟩)
      · unfold peT; rw [if_neg h8, if_neg h15]
      · unfold reT; rw [if_neg h8]
      · unfold szT at h ⊢
        rw [if_neg h8, if_neg h15] at *
        repeat' split
        all_goals first | omega | (exfalso; simp_all)
theorem pC_of {l : List UInt8} (h : pE l = 0) : pC l = atP l (caT (pT l)) := by rw [(pE_sz h).1]; unfold pC; rw [if_pos h]
theorem pP_of {l : List UInt8} (h : pE l = 0) : pP l = atP l (peT (pT l)) := by rw [(pE_sz h).1]; unfold pP; rw [if_pos h]
theorem pR_of {l : List UInt8} (h : pE l = 0) : pR l = if 0 < reT (pT l) then bt l (reT (pT l)).toNat else 0 := by rw [(pE_sz h).1]; unfold pR; rw [if_pos h]
theorem pT_bad {l : List UInt8} (h : pE l ≠ 0) : pT l = 0 ∧ pC l = 0 ∧ pP l = 0 ∧ pR l = 0 := by
  unfold pT pC pP pR
  rw [if_neg h, if_neg h, if_neg h, if_neg h]
  exact ⟨rfl, rfl, rfl, rfl⟩
theorem wAt_self_c {l : List UInt8} : wAt caT l (pC l) = l := by
  unfold wAt
  split
  · rename_i h
    obtain ⟨h0, h1⟩ := h
    obtain ⟨_, h2, h3, _⟩ := pE_sz h0
    rw [pC_of h0]
    have : caT (pT l) = 12 ∧ 14 ≤ szT (pT l) := by rcases sz_cases h3 with h | h | h <;> omega
    rw [this.1]
    exact put16_get16 (k := 12) (by omega)
  · rfl
theorem wAt_self_p {l : List UInt8} : wAt peT l (pP l) = l := by
  unfold wAt
  split
  · rename_i h
    obtain ⟨h0, h1⟩ := h
    obtain ⟨_, h2, h3, _⟩ := pE_sz h0
    rw [pP_of h0]
    rcases sz_cases h3 with h | h | h
    · rw [h.2.2.1]; exact put16_get16 (k := 14) (by omega)
    · rw [h.2.2.1]; exact put16_get16 (k := 12) (by omega)
    · omega
  · rfl
theorem pE_len {l : List UInt8} (h : 12 ≤ l.length) (h0 : get16 l 0 ≠ l.length) : pE l = 4 := by
  unfold pE
  rw [if_neg (by omega), if_neg]
  intro hh
  exact h0 ((head_ref rfl h).1 hh).1
theorem pE_ok {l : List UInt8} (h : 12 ≤ l.length) (h0 : get16 l 0 = l.length) (h2 : get16 l 2 = 1) (h4 : get32 l 4 = 439041101) (h10 : get16 l 10 = 0) : pE l = if szT (get16 l 8) = 0 then 12 else if szT (get16 l 8) = l.length then 0 else 4 := by
  unfold pE
  rw [if_neg (by omega), if_pos ((head_ref rfl h).2 ⟨h0, h2, h4, h10⟩)]
theorem pE_facts {l : List UInt8} (h : pE l = 0) : get16 l 0 = l.length ∧ get16 l 2 = 1 ∧ get32 l 4 = 439041101 ∧ get16 l 10 = 0 := by
  obtain ⟨_, _, _, h3, h4, h5⟩ := pE_sz h
  exact (head_ref rfl h3).1 ⟨h4, h5⟩
theorem get16_congr {l m : List UInt8} {k : Nat} (h : k + 2 ≤ l.length) (h' : k + 2 ≤ m.length) (e0 : bt l k = bt m k) (e1 : bt l (k + 1) = bt m (k + 1)) : get16 l k = get16 m k := by
  rw [get16_bt h, get16_bt h', e0, e1]
theorem bt_take {l : List UInt8} {n i : Nat} (h : i < n) : bt (l.take n) i = bt l i := by
  unfold bt; simp [List.getD_eq_getElem?_getD, h]
theorem pE_cut {l : List UInt8} (h : pE l = 0) : pE (l.take (l.length - 1)) = 4 := by
  obtain ⟨_, h2, h3, _⟩ := pE_sz h
  have h16 : 16 ≤ l.length := by rcases sz_cases h3 with h | h | h <;> omega
  have hl : (l.take (l.length - 1)).length = l.length - 1 := by simp
  refine pE_len (by omega) ?_
  have : get16 (l.take (l.length - 1)) (0 : Nat) = get16 l (0 : Nat) := get16_congr (by omega) (by omega) (bt_take (by omega)) (bt_take (by omega))
  rw [hl]
  have h0 := (pE_facts h).1
  simp only [Int.natCast_zero] at this
  rw [this, h0]
  omega
theorem pE_more {l : List UInt8} (h : pE l = 0) (b : UInt8) : pE (l ++ [b]) = 4 := by
  obtain ⟨_, h2, h3, _⟩ := pE_sz h
  have h16 : 16 ≤ l.length := by rcases sz_cases h3 with h | h | h <;> omega
  have hl : (l ++ [b]).length = l.length + 1 := by simp
  refine pE_len (by omega) ?_
  have : get16 (l ++ [b]) (0 : Nat) = get16 l (0 : Nat) := get16_congr (by omega) (by omega) (bt_append_left _ (by omega)) (bt_append_left _ (by omega))
  rw [hl]
  have h0 := (pE_facts h).1
  simp only [Int.natCast_zero] at this
  rw [this, h0]
  omega
/-- A Clear. -/
theorem clear_get (v : Int) : get16 (clearL v) 0 = 16 ∧ get16 (clearL v) 2 = 1 ∧ get32 (clearL v) 4 = 439041101 ∧ get16 (clearL v) 10 = 0 ∧ get16 (clearL v) 8 = 12 := by
  have h : ∀ k : Nat, k + 2 ≤ 16 → get16 (clearL v) k = bt (clearL v) k * 256 + bt (clearL v) (k + 1) := fun k hk => get16_bt (by simpa [clearL] using hk)
  have h4 : get16 (clearL v) 4 = 6699 := by
    have e := h 4 (by omega)
    rw [show bt (clearL v) 4 = 26 from rfl, show bt (clearL v) (4 + 1) = 43 from rfl] at e
    exact e
  have h6 : get16 (clearL v) 6 = 15437 := by
    have e := h 6 (by omega)
    rw [show bt (clearL v) 6 = 60 from rfl, show bt (clearL v) (6 + 1) = 77 from rfl] at e
    exact e
  have h0 : get16 (clearL v) 0 = 16 := by
    have e := h 0 (by omega)
    rw [show bt (clearL v) 0 = 0 from rfl, show bt (clearL v) (0 + 1) = 16 from rfl] at e
    exact e
  have h2 : get16 (clearL v) 2 = 1 := by
    have e := h 2 (by omega)
    rw [show bt (clearL v) 2 = 0 from rfl, show bt (clearL v) (2 + 1) = 1 from rfl] at e
    exact e
  have h10 : get16 (clearL v) 10 = 0 := by
    have e := h 10 (by omega)
    rw [show bt (clearL v) 10 = 0 from rfl, show bt (clearL v) (10 + 1) = 0 from rfl] at e
    exact e
  have h8 : get16 (clearL v) 8 = 12 := by
    have e := h 8 (by omega)
    rw [show bt (clearL v) 8 = 0 from rfl, show bt (clearL v) (8 + 1) = 12 from rfl] at e
    exact e
  clear h
  refine ⟨h0, h2, ?_, h10, h8⟩
  rw [get32_in (by omega) (by simp [clearL])]
  show get16 _ 4 * 65536 + get16 _ 6 = _
  rw [h4, h6]
  rfl
theorem clear_E (v : Int) : pE (clearL v) = 0 := by
  obtain ⟨h0, h2, h4, h10, h8⟩ := clear_get v
  rw [pE_ok (by simp [clearL]) h0 h2 h4 h10, h8]
  have e : szT 12 = 16 := rfl
  rw [e, if_neg (by omega), if_pos (by simp [clearL])]
theorem clear_T (v : Int) : pT (clearL v) = 12 := by
  unfold pT
  rw [if_pos (clear_E v)]
  exact (clear_get v).2.2.2.2
theorem clear_C {v : Int} (v0 : 0 ≤ v) (v1 : v ≤ 65535) : pC (clearL v) = v := by
  rw [pC_of (clear_E v), clear_T]
  show get16 (clearL v) ((12 : Nat) : Int) = v
  rw [get16_bt (by simp [clearL])]
  show ((ub (v / 256)).toNat : Int) * 256 + ((ub v).toNat : Int) = v
  rw [ub_val, ub_val]
  omega
theorem clear_P (v : Int) : pP (clearL v) = 0 := by rw [pP_of (clear_E v), clear_T]; rfl
theorem clear_R (v : Int) : pR (clearL v) = 0 := by rw [pR_of (clear_E v), clear_T]; rfl
theorem clear_put (v o : Int) : wAt caT (clearL v) o = clearL o := by
  unfold wAt
  rw [if_pos ⟨clear_E v, by rw [clear_T]; decide⟩, clear_T]
  show put16 (clearL v) ((12 : Nat) : Int) o = clearL o
  rw [put16_eq (by simp [clearL])]
  rfl
/-- Another word at place k, behind the head, where nothing else is read. -/
theorem pE_put {l : List UInt8} {k : Nat} {v : Int} (h : pE l = 0) (hk : 12 ≤ k) (hl : k + 2 ≤ l.length) : pE (put16 l k v) = 0 ∧ pT (put16 l k v) = pT l := by
  obtain ⟨hT, h2, h3, h12, _, _⟩ := pE_sz h
  obtain ⟨f0, f2, f4, f10⟩ := pE_facts h
  have hlen : (put16 l k v).length = l.length := put16_length l k v
  have far : ∀ j : Nat, j + 2 ≤ 12 → get16 (put16 l k v) j = get16 l j := fun j hj => get16_put16_far hl (by omega) (.inl (by omega))
  have g0 : get16 (put16 l k v) 0 = get16 l 0 := far 0 (by omega)
  have g2 : get16 (put16 l k v) 2 = get16 l 2 := far 2 (by omega)
  have g4 : get16 (put16 l k v) 4 = get16 l 4 := far 4 (by omega)
  have g6 : get16 (put16 l k v) 6 = get16 l 6 := far 6 (by omega)
  have g8 : get16 (put16 l k v) 8 = get16 l 8 := far 8 (by omega)
  have g10 : get16 (put16 l k v) 10 = get16 l 10 := far 10 (by omega)
  have q4 : get32 (put16 l k v) 4 = get32 l 4 := by
    rw [get32_in (by omega) (by omega), get32_in (by omega) (by omega)]
    show get16 _ 4 * 65536 + get16 _ 6 = _
    rw [g4, g6]; rfl
  have hE := pE_ok (l := put16 l k v) (by omega) (by rw [g0, f0, hlen]) (by rw [g2, f2]) (by rw [q4, f4]) (by rw [g10, f10])
  rw [g8, ← hT, if_neg h3, if_pos (by rw [h2, hlen])] at hE
  refine ⟨hE, ?_⟩
  unfold pT
  rw [if_pos hE, if_pos h, g8]
theorem put_facts {l : List UInt8} {k : Nat} {v : Int} (v0 : 0 ≤ v) (v1 : v ≤ 65535) (h : pE l = 0) (hk : 12 ≤ k) (hl : k + 2 ≤ l.length) :
    pC (put16 l k v) = (if caT (pT l) = k then v else atP (put16 l k v) (caT (pT l))) ∧ pP (put16 l k v) = (if peT (pT l) = k then v else atP (put16 l k v) (peT (pT l))) := by
  obtain ⟨e, eT⟩ := pE_put (v := v) h hk hl
  rw [pC_of e, pP_of e, eT]
  refine ⟨?_, ?_⟩
  · split
    · rename_i hc; rw [hc]; unfold atP; rw [if_neg (by omega), get16_put16 v0 v1 hl]
    · rfl
  · split
    · rename_i hc; rw [hc]; unfold atP; rw [if_neg (by omega), get16_put16 v0 v1 hl]
    · rfl
theorem keep_c {l : List UInt8} {v : Int} (v0 : 0 ≤ v) (v1 : v ≤ 65535) (h : pE l = 0) :
    pE (wAt caT l v) = 0 ∧ pT (wAt caT l v) = pT l ∧ pC (wAt caT l v) = (if pT l = 15 then pC l else v) ∧ pP (wAt caT l v) = pP l ∧ pR (wAt caT l v) = pR l := by
  obtain ⟨hT, h2, h3, h12, _, _⟩ := pE_sz h
  rcases sz_cases h3 with c | c | c
  · obtain ⟨t, ca, pe, re, sz⟩ := c
    have hw : wAt caT l v = put16 l (12 : Nat) v := by unfold wAt; rw [ca, if_pos ⟨h, by omega⟩]; rfl
    have hl : 12 + 2 ≤ l.length := by omega
    obtain ⟨e, eT⟩ := pE_put (v := v) h (Nat.le_refl _) hl
    obtain ⟨fc, fp⟩ := put_facts v0 v1 h (Nat.le_refl _) hl
    rw [hw]
    refine ⟨e, eT, ?_, ?_, ?_⟩
    · rw [fc, if_pos (by omega), if_neg (by omega)]
    · rw [fp, if_neg (by omega), pP_of h, pe]
      show get16 _ ((14 : Nat) : Int) = get16 l ((14 : Nat) : Int)
      exact get16_put16_far hl (by omega) (.inr (by omega))
    · rw [pR_of e, pR_of h, eT, re]
      show bt _ 16 = bt l 16
      rw [bt_put16 hl, if_neg (by omega), if_neg (by omega)]
  · obtain ⟨t, ca, pe, re, sz⟩ := c
    have hw : wAt caT l v = l := by unfold wAt; rw [ca, if_neg (by omega)]
    rw [hw]
    exact ⟨h, rfl, by rw [if_pos t], rfl, rfl⟩
  · obtain ⟨n8, n15, ca, pe, re, sz⟩ := c
    have hw : wAt caT l v = put16 l (12 : Nat) v := by unfold wAt; rw [ca, if_pos ⟨h, by omega⟩]; rfl
    have hl : 12 + 2 ≤ l.length := by omega
    obtain ⟨e, eT⟩ := pE_put (v := v) h (Nat.le_refl _) hl
    obtain ⟨fc, fp⟩ := put_facts v0 v1 h (Nat.le_refl _) hl
    rw [hw]
    refine ⟨e, eT, ?_, ?_, ?_⟩
    · rw [fc, if_pos (by omega), if_neg (by omega)]
    · rw [fp, if_neg (by omega), pP_of h, pe]; rfl
    · rw [pR_of e, pR_of h, eT, re]; rfl
theorem keep_p {l : List UInt8} {v : Int} (v0 : 0 ≤ v) (v1 : v ≤ 65535) (h : pE l = 0) :
    pE (wAt peT l v) = 0 ∧ pT (wAt peT l v) = pT l ∧ pC (wAt peT l v) = pC l ∧ pP (wAt peT l v) = (if pT l = 15 ∨ pT l = 8 then v else pP l) ∧ pR (wAt peT l v) = pR l := by
  obtain ⟨hT, h2, h3, h12, _, _⟩ := pE_sz h
  rcases sz_cases h3 with c | c | c
  · obtain ⟨t, ca, pe, re, sz⟩ := c
    have hw : wAt peT l v = put16 l (14 : Nat) v := by unfold wAt; rw [pe, if_pos ⟨h, by omega⟩]; rfl
    have hl : 14 + 2 ≤ l.length := by omega
    obtain ⟨e, eT⟩ := pE_put (v := v) h (by omega) hl
    obtain ⟨fc, fp⟩ := put_facts v0 v1 h (by omega) hl
    rw [hw]
    refine ⟨e, eT, ?_, ?_, ?_⟩
    · rw [fc, if_neg (by omega), pC_of h, ca]
      show get16 _ ((12 : Nat) : Int) = get16 l ((12 : Nat) : Int)
      exact get16_put16_far hl (by omega) (.inl (by omega))
    · rw [fp, if_pos (by omega), if_pos (by omega)]
    · rw [pR_of e, pR_of h, eT, re]
      show bt _ 16 = bt l 16
      rw [bt_put16 hl, if_neg (by omega), if_neg (by omega)]
  · obtain ⟨t, ca, pe, re, sz⟩ := c
    have hw : wAt peT l v = put16 l (12 : Nat) v := by unfold wAt; rw [pe, if_pos ⟨h, by omega⟩]; rfl
    have hl : 12 + 2 ≤ l.length := by omega
    obtain ⟨e, eT⟩ := pE_put (v := v) h (Nat.le_refl _) hl
    obtain ⟨fc, fp⟩ := put_facts v0 v1 h (Nat.le_refl _) hl
    rw [hw]
    refine ⟨e, eT, ?_, ?_, ?_⟩
    · rw [fc, if_neg (by omega), pC_of h, ca]; rfl
    · rw [fp, if_pos (by omega), if_pos (by omega)]
    · rw [pR_of e, pR_of h, eT, re]; rfl
  · obtain ⟨n8, n15, ca, pe, re, sz⟩ := c
    have hw : wAt peT l v = l := by unfold wAt; rw [pe, if_neg (by omega)]
    rw [hw]
    exact ⟨h, rfl, rfl, by rw [if_neg (by omega)], rfl⟩
/-- How many of the first k bytes differ. -/
def difK (a b : List UInt8) : Nat → Int
  | 0 => 0
  | k + 1 => difK a b k + if bt a k = bt b k then 0 else 1
theorem difK_lo (a b : List UInt8) (k : Nat) : 0 ≤ difK a b k ∧ difK a b k ≤ k := by
  induction k with
  | zero => exact ⟨Int.le_refl _, Int.le_refl _⟩
  | succ k ih => simp only [difK]; split <;> omega
theorem difK_same (l : List UInt8) (k : Nat) : difK l l k = 0 := by
  induction k with
  | zero => rfl
  | succ k ih => simp only [difK]; rw [ih]; simp
theorem difK_put {l : List UInt8} {i : Nat} {v : Int} (h : i + 2 ≤ l.length) (k : Nat) : difK (put16 l i v) l k ≤ (if i < k then 1 else 0) + (if i + 1 < k then 1 else 0) := by
  induction k with
  | zero => simp [difK]
  | succ k ih =>
    simp only [difK]
    rw [bt_put16 h]
    by_cases e0 : k = i
    · subst e0
      simp only [if_true] at *
      split <;> split <;> split at ih <;> omega
    · by_cases e1 : k = i + 1
      · subst e1
        simp only [if_neg e0, if_true] at *
        split <;> split <;> split at ih <;> omega
      · rw [if_neg e0, if_neg e1]
        simp only [if_true]
        split <;> split <;> split at ih <;> split at ih <;> omega
theorem dif_wAt {f : Int → Int} {l : List UInt8} {v : Int} (hf : pE l = 0 → f (pT l) = 0 ∨ (0 ≤ f (pT l) ∧ (f (pT l)).toNat + 2 ≤ l.length)) (k : Nat) : difK (wAt f l v) l k ≤ 2 := by
  unfold wAt
  split
  · rename_i h
    obtain ⟨p0, p1⟩ := (hf h.1).resolve_left h.2
    have e : f (pT l) = ((f (pT l)).toNat : Int) := by omega
    rw [e]
    have := difK_put (v := v) p1 k
    split at this <;> split at this <;> omega
  · rw [difK_same]; omega
theorem wAt_length (f : Int → Int) (l : List UInt8) (v : Int) : (wAt f l v).length = l.length := by
  unfold wAt; split
  · exact put16_length _ _ _
  · rfl
theorem ca_in {l : List UInt8} (h : pE l = 0) : caT (pT l) = 0 ∨ (0 ≤ caT (pT l) ∧ (caT (pT l)).toNat + 2 ≤ l.length) := by
  obtain ⟨hT, h2, h3, _⟩ := pE_sz h
  rcases sz_cases h3 with c | c | c <;> omega
theorem pe_in {l : List UInt8} (h : pE l = 0) : peT (pT l) = 0 ∨ (0 ≤ peT (pT l) ∧ (peT (pT l)).toNat + 2 ≤ l.length) := by
  obtain ⟨hT, h2, h3, _⟩ := pE_sz h
  rcases sz_cases h3 with c | c | c <;> omega
end Go.Proofs.Ytkiiaaadcfaojaa

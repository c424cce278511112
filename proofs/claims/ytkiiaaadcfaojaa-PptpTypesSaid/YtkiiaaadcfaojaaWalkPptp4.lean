import Derived.Test.YtkiiaaadcfaojaaPptpMath
import Derived.Test.YtkiiaaadcfaojaaSmall
import Derived.BigQuiet
namespace Go.Proofs.Ytkiiaaadcfaojaa
open Go.RowKit Go.MapKept
set_option linter.unusedVariables false
set_option maxHeartbeats 4000000
set_option maxRecDepth 100000

def hdL (n t c : Int) : List UInt8 := [ub (n / 256), ub n, 0, 1, 26, 43, 60, 77, ub (t / 256), ub t, 0, 0, ub (c / 256), ub c]
/-- The head's first j bytes, and zeros. -/
def mixL (n t c : Int) (k j : Nat) : List UInt8 := (hdL n t c).take j ++ zs (k - j)
theorem mix_len {n t c : Int} {k j : Nat} (h : j ≤ 14) (hk : 14 ≤ k) : (mixL n t c k j).length = k := by
  unfold mixL
  rw [List.length_append, zs_length, List.length_take]
  have : (hdL n t c).length = 14 := rfl
  omega
theorem mix_step {n t c : Int} {k j : Nat} (h : j < 14) (hk : 14 ≤ k) : (mixL n t c k j).set j (ub (bt (hdL n t c) j)) = mixL n t c k (j + 1) := by
  have hl : (hdL n t c).length = 14 := rfl
  have e1 : ub (bt (hdL n t c) j) = (hdL n t c)[j]'(by omega) := ub_bt _ (by omega) (by have := bt_lo (hdL n t c) j; have := bt_hi (hdL n t c) j; omega)
  unfold mixL
  rw [e1, List.set_append_right _ _ (by rw [List.length_take]; omega), List.length_take, show j - min j (hdL n t c).length = 0 from by omega]
  obtain ⟨m, hm⟩ : ∃ m, k - j = m + 1 := ⟨k - j - 1, by omega⟩
  have h2 : k - (j + 1) = m := by omega
  rw [hm, h2, List.take_succ_eq_append_getElem (by omega), List.append_assoc]
  rfl
theorem mix_get {n t c : Int} {k i : Nat} (h : i + 2 ≤ 14) (hk : 14 ≤ k) : get16 (mixL n t c k 14) i = bt (hdL n t c) i * 256 + bt (hdL n t c) (i + 1) := by
  have hl : (hdL n t c).length = 14 := rfl
  have e : (hdL n t c).take 14 = hdL n t c := List.take_of_length_le (by omega)
  rw [get16_bt (by rw [mix_len (Nat.le_refl _) hk]; omega)]
  unfold mixL
  rw [e, bt_append_left _ (by omega), bt_append_left _ (by omega)]
theorem mix_facts {t c : Int} {k : Nat} (t0 : 0 ≤ t) (t1 : t ≤ 65535) (c0 : 0 ≤ c) (c1 : c ≤ 65535) (hk : 14 ≤ k) (hk2 : k ≤ 65535) :
    get16 (mixL k t c k 14) 0 = k ∧ get16 (mixL k t c k 14) 2 = 1 ∧ get32 (mixL k t c k 14) 4 = 439041101 ∧ get16 (mixL k t c k 14) 10 = 0 ∧ get16 (mixL k t c k 14) 8 = t ∧ get16 (mixL k t c k 14) 12 = c := by
  have h := fun i (hi : i + 2 ≤ 14) => mix_get (n := k) (t := t) (c := c) hi hk
  have hlen := mix_len (n := k) (t := t) (c := c) (Nat.le_refl 14) hk
  have h0 : get16 (mixL k t c k 14) 0 = k := by
    have e := h 0 (by omega)
    rw [show bt (hdL k t c) 0 = ((ub ((k : Int) / 256)).toNat : Int) from rfl, show bt (hdL k t c) (0 + 1) = ((ub (k : Int)).toNat : Int) from rfl, ub_val, ub_val] at e
    exact e.trans (by omega)
  have h8 : get16 (mixL k t c k 14) 8 = t := by
    have e := h 8 (by omega)
    rw [show bt (hdL k t c) 8 = ((ub (t / 256)).toNat : Int) from rfl, show bt (hdL k t c) (8 + 1) = ((ub t).toNat : Int) from rfl, ub_val, ub_val] at e
    exact e.trans (by omega)
  have h12 : get16 (mixL k t c k 14) 12 = c := by
    have e := h 12 (by omega)
    rw [show bt (hdL k t c) 12 = ((ub (c / 256)).toNat : Int) from rfl, show bt (hdL k t c) (12 + 1) = ((ub c).toNat : Int) from rfl, ub_val, ub_val] at e
    exact e.trans (by omega)
  have h2 : get16 (mixL k t c k 14) 2 = 1 := by
    have e := h 2 (by omega)
    rw [show bt (hdL k t c) 2 = 0 from rfl, show bt (hdL k t c) (2 + 1) = 1 from rfl] at e
    exact e
  have h10 : get16 (mixL k t c k 14) 10 = 0 := by
    have e := h 10 (by omega)
    rw [show bt (hdL k t c) 10 = 0 from rfl, show bt (hdL k t c) (10 + 1) = 0 from rfl] at e
    exact e
  have h4 : get16 (mixL k t c k 14) 4 = 6699 := by
    have e := h 4 (by omega)
    rw [show bt (hdL k t c) 4 = 26 from rfl, show bt (hdL k t c) (4 + 1) = 43 from rfl] at e
    exact e
  have h6 : get16 (mixL k t c k 14) 6 = 15437 := by
    have e := h 6 (by omega)
    rw [show bt (hdL k t c) 6 = 60 from rfl, show bt (hdL k t c) (6 + 1) = 77 from rfl] at e
    exact e
  refine ⟨h0, h2, ?_, h10, h8, h12⟩
  rw [get32_in (by omega) (by omega)]
  show get16 _ 4 * 65536 + get16 _ 6 = _
  rw [h4, h6]
  rfl
/-- What the loop has of a type: its bytes, and what is parsed of them. -/
theorem mix_parse {t c : Int} {k : Nat} (t0 : 0 ≤ t) (t1 : t ≤ 65535) (c0 : 0 ≤ c) (c1 : c ≤ 65535) (hk : (k : Int) = if szT t = 0 then 16 else szT t) :
    pE (mixL k t c k 14) = (if szT t = 0 then 12 else 0) ∧ pT (mixL k t c k 14) = (if szT t = 0 then 0 else t) ∧ pC (mixL k t c k 14) = (if szT t = 0 ∨ t = 15 then 0 else c) ∧
      pP (mixL k t c k 14) = (if szT t = 0 ∨ t ≠ 15 then pP (mixL k t c k 14) else c) ∧ pR (mixL k t c k 14) = (if szT t = 0 ∨ t ≠ 15 then pR (mixL k t c k 14) else 0) ∧ (szT t = 0 → pP (mixL k t c k 14) = 0 ∧ pR (mixL k t c k 14) = 0) := by
  have hk1 : 14 ≤ k ∧ k ≤ 65535 := by
    by_cases z : szT t = 0
    · rw [if_pos z] at hk; omega
    · rw [if_neg z] at hk
      have : szT t ≤ 168 := by unfold szT; repeat' split
                               all_goals omega
      rcases sz_cases z with h | h | h <;> omega
  obtain ⟨h0, h2, h4, h10, h8, h12⟩ := mix_facts t0 t1 c0 c1 hk1.1 hk1.2
  have hlen := mix_len (n := k) (t := t) (c := c) (Nat.le_refl 14) hk1.1
  have hE := pE_ok (l := mixL k t c k 14) (by omega) (by rw [h0, hlen]) h2 h4 h10
  rw [h8, hlen] at hE
  by_cases z : szT t = 0
  · rw [if_pos z] at hE hk ⊢
    have hb := pT_bad (l := mixL k t c k 14) (by omega)
    exact ⟨hE, by rw [if_pos z]; exact hb.1, by rw [if_pos (.inl z)]; exact hb.2.1, by rw [if_pos (.inl z)], by rw [if_pos (.inl z)], fun _ => hb.2.2⟩
  · rw [if_neg z] at hE hk ⊢
    rw [if_pos hk.symm] at hE
    have hT : pT (mixL k t c k 14) = t := by rw [(pE_sz hE).1, h8]
    refine ⟨hE, by rw [if_neg z]; exact hT, ?_, ?_, ?_, fun h => absurd h z⟩
    · rw [pC_of hE, hT]
      rcases sz_cases z with h | h | h
      · rw [h.2.1, if_neg (by omega)]; show get16 _ 12 = c; exact h12
      · rw [h.2.1, if_pos (.inr h.1)]; rfl
      · rw [h.2.2.1, if_neg (by omega)]; show get16 _ 12 = c; exact h12
    · by_cases e : t = 15
      · rw [if_neg (by omega), pP_of hE, hT, e]; show get16 _ 12 = c; rw [← e]; exact h12
      · rw [if_pos (.inr e)]
    · by_cases e : t = 15
      · rw [if_neg (by omega), pR_of hE, hT, e]; rfl
      · rw [if_pos (.inr e)]

theorem pptpTypes_walk (w : World) (t : Int) (t0 : 0 ≤ t) (t1 : t ≤ 65535) (c : Int) (c0 : 0 ≤ c) (c1 : c ≤ 65535) :
    Calls Try.prog 5 #[.int .u16 t, .int .u16 c] w fun e w' => e = .returned (.bool true) ∧ Below w.heap.size w w' := by
  have tw : wrap64 t = t := by unfold wrap64; omega
  have sb : 0 ≤ szT t ∧ szT t ≤ 168 := by
    unfold szT
    repeat' split
    all_goals omega
  obtain ⟨k, hk⟩ : ∃ k : Nat, (k : Int) = if szT t = 0 then 16 else szT t := by
    by_cases z : szT t = 0
    · rw [if_pos z]; exact ⟨16, rfl⟩
    · rw [if_neg z]; exact ⟨(szT t).toNat, by omega⟩
  have hk14 : 14 ≤ k := by
    by_cases z : szT t = 0
    · rw [if_pos z] at hk; omega
    · rw [if_neg z] at hk
      rcases sz_cases z with h | h | h <;> omega
  have hk168 : k ≤ 168 := by split at hk <;> omega
  have hP := mix_parse t0 t1 c0 c1 hk
  have hlen := mix_len (n := k) (t := t) (c := c) (Nat.le_refl 14) hk14
  obtain ⟨s, hs⟩ : ∃ s, szT t = s := ⟨_, rfl⟩
  rw [hs] at hk sb hP
  have hS : Hid (∀ W, Calls Try.prog 13 #[.int .i64 t] W fun e w' => e = .returned (.int .i64 s) ∧ Below W.heap.size W w') := fun W => by rw [← hs]; exact size_any t W
  have HP := Lib.hid hP
  have HL := Lib.hid hlen
  clear hs hP hlen
  by_cases z : s = 0
  · have z1 : (s == 0) = true := by simp [z]
    obtain rfl : k = 16 := by rw [if_pos z] at hk; omega
    have HZ := Lib.hid z
    have hmk : ∀ W : World, (Instr.makeSlice 22 (.int .i64 16) (.int .i64 16)).run Try.prog W = .ok (.slice (some ⟨W.heap.size, 0, none⟩) 16 16) (W.alloc (.cells (cu (zs 16)).toArray 5)) := run_make_zs (P := Try.prog) 22 5 Try.underlying22 info_u8 .i64 .i64 16 (by omega)
    clear hk z
    go_enter Try.func5, Try.ntmps5
    go_wp2_with (go_at_call 13; ((with_reducible refine (hS.out _).mono ?_); rintro e w1 ⟨rfl, hB1⟩))
    have hcE : (cu (hdL 16 t c)).toArray = #[.int .u8 0, .int .u8 16, .int .u8 0, .int .u8 1, .int .u8 26, .int .u8 43, .int .u8 60, .int .u8 77, .int .u8 (t / 256), .int .u8 (t % 256), .int .u8 0, .int .u8 0, .int .u8 (c / 256), .int .u8 (c % 256)] := by
      unfold hdL cu
      simp only [List.map_cons, List.map_nil, ub_val]
      rw [show (16 : Int) / 256 % 256 = 0 from by omega, show (16 : Int) % 256 = 16 from by omega, show t / 256 % 256 = t / 256 from by omega, show c / 256 % 256 = c / 256 from by omega]
      rfl
    have hh : Bs ((w1.alloc (.cells (cu (zs 16)).toArray 5)).alloc (.cells (cu (hdL 16 t c)).toArray 5)) (some ⟨w1.heap.size + 1, 0, none⟩) 14 14 (hdL 16 t c) := bs_litk (hdL 16 t c) 14 (by simp) rfl (by omega)
    rw [hcE] at hh
    clear hcE
    have ho : Own (w1.alloc (.cells (cu (zs 16)).toArray 5)) w1.heap.size 5 (some ⟨w1.heap.size, 0, none⟩) 16 16 (mixL 16 t c 16 0) := own_zs w1 w1.heap.size 5 16 (by omega) (Nat.le_refl _)
    go_loopw [8] (fun i wr => ∃ j : Nat, j ≤ 14 ∧ i = .int .i64 j ∧ Own wr w1.heap.size 5 (some ⟨w1.heap.size, 0, none⟩) 16 16 (mixL 16 t c 16 j) ∧ Bs wr (some ⟨w1.heap.size + 1, 0, none⟩) 14 14 (hdL 16 t c) ∧ Below w.heap.size w wr) (fun i _ => 14 - (intOf i).toNat)
    case atStart => exact ⟨0, by omega, rfl, ho.alloc _, hh, by (repeat (first | with_reducible exact Below.refl _ _ | with_reducible refine below_drew ?_ | with_reducible refine below_drewN ?_ _ | with_reducible refine below_alloc ?_ (Nat.le_refl _) _ | with_reducible refine Below.setCell ?_ (by first | exact Nat.le_refl _ | (simp only []; omega)) _ | with_reducible assumption))⟩
    case round =>
      obtain ⟨j, hj, rfl, hoj, hhj, hBj⟩ := hrel
      by_cases hlt : j < 14
      · obtain ⟨b, o, hA, hc⟩ := hhj.rd (by omega)
        obtain ⟨rfl, rfl⟩ : w1.heap.size + 1 = b ∧ 0 = o := by simpa using hA
        have cj := hc j hlt
        simp only [Nat.zero_add] at cj
        obtain ⟨ca, cf⟩ := hoj.at_ (i := j) (by omega)
        have b0 := bt_lo (hdL 16 t c) j
        have b1 := bt_hi (hdL 16 t c) j
        have hs := hoj.set_ (i := j) (by omega) (bt (hdL 16 t c) j) (y := bt (hdL 16 t c) j) (by omega)
        rw [mix_step hlt hk14] at hs
        have i0 : (0 : Int) ≤ j := by omega
        have i1 : (j : Int) < 14 := by omega
        have i2 : (j : Int) < 16 := by omega
        clear hc hA
        go_wp2_with fail
        exact ⟨⟨j + 1, by omega, by go_num, hs, hhj.far ⟨w1.heap.size, j, none⟩ (by simp) _, hBj.setCell (p := ⟨w1.heap.size, j, none⟩) hB1.size _⟩, by simp [intOf]; omega⟩
      · obtain rfl : j = 14 := by omega
        have hbs := hoj.bs
        obtain ⟨e1, e2, e3, e4, e5, e6⟩ := HP.out
        rw [if_pos HZ.out] at e1 e2
        rw [if_pos (.inl HZ.out)] at e3
        obtain ⟨e4, e5⟩ := e6 HZ.out
        have HL0 := Lib.hid e1
        obtain ⟨L, hL⟩ : ∃ L, mixL 16 t c 16 14 = L := ⟨_, rfl⟩
        rw [hL] at hbs
        have hL2 : mixL ((16 : Nat) : Int) t c 16 14 = L := hL
        rw [hL2] at e1 e2 e3 e4 e5
        clear e6 HL0
        go_wp2_with (first
          | (go_at_call 10; ((with_reducible refine (parse_v _ _ _ L _ hbs).mono ?_); rintro e w5 ⟨rfl, hB5⟩); have T5 := below_then hBj hB5)
          | (go_at_call 13; ((with_reducible refine (hS.out _).mono ?_); rintro e w6 ⟨rfl, hB6⟩); have m6 := (blk_new w5 _ _ _ rfl).below hB6; have T6 := below_then (below_alloc T5 (Nat.le_refl _) _) hB6)
          | (go_at_call 12; ((with_reducible refine (live15_any _).mono ?_); rintro e w7 ⟨rfl, hB7⟩); have m7 := (m6.below hB7).cell; have T7 := below_then T6 hB7))
        go_ret
        exact ⟨rfl, T7⟩
  · have z1 : (s == 0) = false := by simpa using z
    obtain rfl : s = (k : Int) := by rw [if_neg z] at hk; omega
    have HZ := Lib.hid z
    have hmk := run_make_zs (P := Try.prog) 22 5 Try.underlying22 info_u8 .i64 .i64 k (by omega)
    clear hk z
    go_enter Try.func5, Try.ntmps5
    go_wp2_with (go_at_call 13; ((with_reducible refine (hS.out _).mono ?_); rintro e w1 ⟨rfl, hB1⟩))
    have hcE : (cu (hdL (k : Int) t c)).toArray = #[.int .u8 ((k : Int) / 256), .int .u8 (k : Int), .int .u8 0, .int .u8 1, .int .u8 26, .int .u8 43, .int .u8 60, .int .u8 77, .int .u8 (t / 256), .int .u8 (t % 256), .int .u8 0, .int .u8 0, .int .u8 (c / 256), .int .u8 (c % 256)] := by
      unfold hdL cu
      simp only [List.map_cons, List.map_nil, ub_val]
      rw [show ((k : Int) : Int) / 256 % 256 = ((k : Int) / 256) from by omega, show ((k : Int) : Int) % 256 = (k : Int) from by omega, show t / 256 % 256 = t / 256 from by omega, show c / 256 % 256 = c / 256 from by omega]
      rfl
    have hh : Bs ((w1.alloc (.cells (cu (zs k)).toArray 5)).alloc (.cells (cu (hdL (k : Int) t c)).toArray 5)) (some ⟨w1.heap.size + 1, 0, none⟩) 14 14 (hdL (k : Int) t c) := bs_litk (hdL (k : Int) t c) 14 (by simp) rfl (by omega)
    rw [hcE] at hh
    clear hcE
    have ho : Own (w1.alloc (.cells (cu (zs k)).toArray 5)) w1.heap.size 5 (some ⟨w1.heap.size, 0, none⟩) k k (mixL (k : Int) t c k 0) := own_zs w1 w1.heap.size 5 k (by omega) (Nat.le_refl _)
    go_loopw [8] (fun i wr => ∃ j : Nat, j ≤ 14 ∧ i = .int .i64 j ∧ Own wr w1.heap.size 5 (some ⟨w1.heap.size, 0, none⟩) k k (mixL (k : Int) t c k j) ∧ Bs wr (some ⟨w1.heap.size + 1, 0, none⟩) 14 14 (hdL (k : Int) t c) ∧ Below w.heap.size w wr) (fun i _ => 14 - (intOf i).toNat)
    case atStart => exact ⟨0, by omega, rfl, ho.alloc _, hh, by (repeat (first | with_reducible exact Below.refl _ _ | with_reducible refine below_drew ?_ | with_reducible refine below_drewN ?_ _ | with_reducible refine below_alloc ?_ (Nat.le_refl _) _ | with_reducible refine Below.setCell ?_ (by first | exact Nat.le_refl _ | (simp only []; omega)) _ | with_reducible assumption))⟩
    case round =>
      obtain ⟨j, hj, rfl, hoj, hhj, hBj⟩ := hrel
      by_cases hlt : j < 14
      · obtain ⟨b, o, hA, hc⟩ := hhj.rd (by omega)
        obtain ⟨rfl, rfl⟩ : w1.heap.size + 1 = b ∧ 0 = o := by simpa using hA
        have cj := hc j hlt
        simp only [Nat.zero_add] at cj
        obtain ⟨ca, cf⟩ := hoj.at_ (i := j) (by omega)
        have b0 := bt_lo (hdL (k : Int) t c) j
        have b1 := bt_hi (hdL (k : Int) t c) j
        have hs := hoj.set_ (i := j) (by omega) (bt (hdL (k : Int) t c) j) (y := bt (hdL (k : Int) t c) j) (by omega)
        rw [mix_step hlt hk14] at hs
        have i0 : (0 : Int) ≤ j := by omega
        have i1 : (j : Int) < 14 := by omega
        have i2 : (j : Int) < (k : Int) := by omega
        clear hc hA
        go_wp2_with fail
        exact ⟨⟨j + 1, by omega, by go_num, hs, hhj.far ⟨w1.heap.size, j, none⟩ (by simp) _, hBj.setCell (p := ⟨w1.heap.size, j, none⟩) hB1.size _⟩, by simp [intOf]; omega⟩
      · obtain rfl : j = 14 := by omega
        have hbs := hoj.bs
        obtain ⟨e1, e2, e3, e4, e5, e6⟩ := HP.out
        rw [if_neg HZ.out] at e1 e2
        clear e6
        have tw2 : wrap64 t = t := tw
        by_cases t15 : t = 15
        · have r15 : (t == 15) = true := by simp [t15]
          rw [if_pos (.inr t15)] at e3
          rw [if_neg (fun h => h.elim HZ.out (fun h => h t15))] at e4 e5
          clear t15
          obtain ⟨L, hL⟩ : ∃ L, mixL (k : Int) t c k 14 = L := ⟨_, rfl⟩
          rw [hL] at hbs e1 e2 e3 e4 e5
          go_wp2_with (first
            | (go_at_call 10; ((with_reducible refine (parse_v _ _ _ L _ hbs).mono ?_); rintro e w5 ⟨rfl, hB5⟩); have T5 := below_then hBj hB5)
            | (go_at_call 13; ((with_reducible refine (hS.out _).mono ?_); rintro e w6 ⟨rfl, hB6⟩); have m6 := (blk_new w5 _ _ _ rfl).below hB6; have T6 := below_then (below_alloc T5 (Nat.le_refl _) _) hB6)
            | (go_at_call 12; ((with_reducible refine (live15_any _).mono ?_); rintro e w7 ⟨rfl, hB7⟩); have m7 := (m6.below hB7).cell; have T7 := below_then T6 hB7))
          go_ret
          exact ⟨rfl, T7⟩
        · have r15 : (t == 15) = false := by simpa using t15
          rw [if_neg (fun h => h.elim HZ.out t15)] at e3
          clear t15 e4 e5
          obtain ⟨L, hL⟩ : ∃ L, mixL (k : Int) t c k 14 = L := ⟨_, rfl⟩
          rw [hL] at hbs e1 e2 e3
          go_wp2_with (first
            | (go_at_call 10; ((with_reducible refine (parse_v _ _ _ L _ hbs).mono ?_); rintro e w5 ⟨rfl, hB5⟩); have T5 := below_then hBj hB5)
            | (go_at_call 13; ((with_reducible refine (hS.out _).mono ?_); rintro e w6 ⟨rfl, hB6⟩); have m6 := (blk_new w5 _ _ _ rfl).below hB6; have T6 := below_then (below_alloc T5 (Nat.le_refl _) _) hB6)
            | (go_at_call 12; ((with_reducible refine (live15_any _).mono ?_); rintro e w7 ⟨rfl, hB7⟩); have m7 := (m6.below hB7).cell; have T7 := below_then T6 hB7))
          go_ret
          exact ⟨rfl, T7⟩
end Go.Proofs.Ytkiiaaadcfaojaa

import Derived.Test.YtkiiaaadcfaojaaPptp7
namespace Go.Proofs.Ytkiiaaadcfaojaa
open Go.RowKit
set_option linter.unusedVariables false
set_option maxHeartbeats 4000000

theorem rparse_go (A : Option Addr) (n c : Nat) (l : List UInt8) (w : World) (hb : Bs w A n c l) (h : 12 ≤ n) (hh : headB l n = true ∧ n ≤ 65535) :
    Calls Try.prog 11 #[.slice A n c] w fun e w' => e = .returned (.tuple #[pM l, .int .i64 (pE l)]) ∧ Below w.heap.size w w' := by
  obtain ⟨t, ht⟩ : ∃ t, get16 l 8 = t := ⟨_, rfl⟩
  have hE : pE l = if szT t = 0 then 12 else if szT t = n then 0 else 4 := by unfold pE; rw [hb.len, if_neg (by omega), if_pos hh, ht]
  have hM0 : pE l = 0 → pM l = .agg #[.int .i64 t, .int .u16 (atP l (caT t)), .int .u16 (atP l (peT t)), .int .u8 (if 0 < reT t then bt l (reT t).toNat else 0)] := by
    intro h
    unfold pM pT pC pP pR
    rw [if_pos h, if_pos h, if_pos h, if_pos h, ht]
  have t0 : 0 ≤ t := by rw [← ht]; exact get16_lo l 8
  have t1 : t ≤ 65535 := by rw [← ht]; exact get16_hi l 8
  have tw : wrap64 t = t := by unfold wrap64; omega
  have hq := (head_ref hb.len h).1 hh
  obtain ⟨x0, hx0⟩ : ∃ x, get16 l 0 = x := ⟨_, rfl⟩
  obtain ⟨x2, hx2⟩ : ∃ x, get16 l 2 = x := ⟨_, rfl⟩
  obtain ⟨x4, hx4⟩ : ∃ x, get32 l 4 = x := ⟨_, rfl⟩
  obtain ⟨x10, hx10⟩ : ∃ x, get16 l 10 = x := ⟨_, rfl⟩
  rw [hx0, hx2, hx4, hx10] at hq
  obtain ⟨q0, q2, q4, q10⟩ := hq
  have bw : wrap64 x0 = x0 := by unfold wrap64; omega
  have h0' : (x0 != n) = false := by simpa using q0
  have h2' : (x2 != 1) = false := by simpa using q2
  have h4' : (x4 != 439041101) = false := by simpa using q4
  have h10' : (x10 != 0) = false := by simpa using q10
  clear q0 q2 q4 q10
  have p1 : ¬ (n : Int) < 12 := by omega
  have hb1 : Bs (w.alloc (.cells #[.int .i64 0, .int .u16 0, .int .u16 0, .int .u8 0] 29)) A n c l := hb.alloc _
  have hsd : ∀ (W : World) (d : Nat) (p : Addr) (v : Value), (W.drewN d).setCell p v = (W.setCell p v).drewN d := setCell_drewN
  by_cases z1 : szT t = 0
  · rw [if_pos z1] at hE
    rw [pM_bad (by omega), hE]
    have z2 : (szT t == 0) = true := by simpa using z1
    clear z1 hE hM0 hh
    go_enter Try.func11, Try.ntmps11
    go_wp2_with (first
      | (go_at_call 24; ((with_reducible refine (rget16_any A n c l 0 _ hb1).mono ?_); rintro e w2 ⟨rfl, ⟨⟨d2, rfl⟩⟩⟩))
      | (go_at_call 24; ((with_reducible refine (rget16_any A n c l 2 _ (hb1.drewN _)).mono ?_); rintro e w3 ⟨rfl, ⟨⟨d3, rfl⟩⟩⟩))
      | (go_at_call 25; ((with_reducible refine (rget32_any A n c l 4 _ (hb1.drewN _)).mono ?_); rintro e w4 ⟨rfl, ⟨⟨d4, rfl⟩⟩⟩))
      | (go_at_call 24; ((with_reducible refine (rget16_any A n c l 10 _ (hb1.drewN _)).mono ?_); rintro e w5 ⟨rfl, ⟨⟨d5, rfl⟩⟩⟩))
      | (go_at_call 24; ((with_reducible refine (rget16_any A n c l 8 _ (hb1.drewN _)).mono ?_); rintro e w6 ⟨rfl, ⟨⟨d6, rfl⟩⟩⟩))
      | (go_at_call 19; ((with_reducible refine (rsize_any t _).mono ?_); rintro e w7 ⟨rfl, rfl⟩))
      | (go_at_call 24; ((with_reducible refine (rget16_any A n c l 12 _ (hb.below (by (repeat (first | with_reducible exact Below.refl _ _ | with_reducible refine below_drew ?_ | with_reducible refine below_drewN ?_ _ | with_reducible refine below_alloc ?_ (Nat.le_refl _) _ | with_reducible refine Below.setCell ?_ (by first | exact Nat.le_refl _ | (simp only []; omega)) _ | with_reducible assumption))))).mono ?_); rintro e w8 ⟨rfl, ⟨⟨d8, rfl⟩⟩⟩)))
    refine bodyPost_ret (v := .tuple #[.agg #[.int .i64 0, .int .u16 0, .int .u16 0, .int .u8 0], .int .i64 12]) (by simp [results, Try.results11, go_sem]) rfl ⟨rfl, ?_⟩
    (repeat (first | with_reducible exact Below.refl _ _ | with_reducible refine below_drew ?_ | with_reducible refine below_drewN ?_ _ | with_reducible refine below_alloc ?_ (Nat.le_refl _) _ | with_reducible refine Below.setCell ?_ (by first | exact Nat.le_refl _ | (simp only []; omega)) _ | with_reducible assumption))
  · rw [if_neg z1] at hE
    have z2 : (szT t == 0) = false := by simpa using z1
    by_cases z3 : szT t = n
    · rw [if_pos z3] at hE
      rw [hM0 hE, hE]
      have z4 : (szT t != n) = false := by simpa using z3
      clear hE hM0 hh
      by_cases e8 : t = 8
      · have hn32 : (n : Int) = 32 := by rw [← z3, e8]; rfl
        have v1 : atP l (caT t) = get16 l 12 := by rw [e8]; rfl
        have v2 : atP l (peT t) = get16 l 14 := by rw [e8]; rfl
        have v3 : (if 0 < reT t then bt l (reT t).toNat else 0) = bt l 16 := by rw [e8]; rfl
        have e8' : (t == 8) = true := by simpa using e8
        have hi0 : (16 : Int) < n := by omega
        rw [v1, v2, v3]
        clear v1 v2 v3 e8 z1 z3 hn32
        go_enter Try.func11, Try.ntmps11
        go_wp2_with (first
          | (go_at_call 24; ((with_reducible refine (rget16_any A n c l 0 _ hb1).mono ?_); rintro e w2 ⟨rfl, ⟨⟨d2, rfl⟩⟩⟩))
          | (go_at_call 24; ((with_reducible refine (rget16_any A n c l 2 _ (hb1.drewN _)).mono ?_); rintro e w3 ⟨rfl, ⟨⟨d3, rfl⟩⟩⟩))
          | (go_at_call 25; ((with_reducible refine (rget32_any A n c l 4 _ (hb1.drewN _)).mono ?_); rintro e w4 ⟨rfl, ⟨⟨d4, rfl⟩⟩⟩))
          | (go_at_call 24; ((with_reducible refine (rget16_any A n c l 10 _ (hb1.drewN _)).mono ?_); rintro e w5 ⟨rfl, ⟨⟨d5, rfl⟩⟩⟩))
          | (go_at_call 24; ((with_reducible refine (rget16_any A n c l 8 _ (hb1.drewN _)).mono ?_); rintro e w6 ⟨rfl, ⟨⟨d6, rfl⟩⟩⟩))
          | (go_at_call 19; ((with_reducible refine (rsize_any t _).mono ?_); rintro e w7 ⟨rfl, rfl⟩))
          | (go_at_call 24; ((with_reducible refine (rget16_any A n c l 12 _ (hb.below (by (repeat (first | with_reducible exact Below.refl _ _ | with_reducible refine below_drew ?_ | with_reducible refine below_drewN ?_ _ | with_reducible refine below_alloc ?_ (Nat.le_refl _) _ | with_reducible refine Below.setCell ?_ (by first | exact Nat.le_refl _ | (simp only []; omega)) _ | with_reducible assumption))))).mono ?_); rintro e w8 ⟨rfl, ⟨⟨d8, rfl⟩⟩⟩)))
        obtain ⟨gb, go, rfl, hrd⟩ := hb.rd (by omega)
        have hgl : gb < w.heap.size := by
          have := World.block_lt_of_cell? w _ (hrd 0 (by omega))
          simpa using this
        have hn1 : ¬ gb = w.heap.size + 1 := by omega
        have hn2 : ¬ w.heap.size + 1 = gb := by omega
        clear hrd hgl
        have hbx : Bs (((w.alloc (.cells #[.int .i64 0, .int .u16 0, .int .u16 0, .int .u8 0] 29)).drewN (d2 + d3 + d4 + d5 + d6)).alloc (.cells #[.int .i64 t, .int .u16 0, .int .u16 0, .int .u8 0] 29)) (some ⟨gb, go, none⟩) n c l := hb.below (by (repeat (first | with_reducible exact Below.refl _ _ | with_reducible refine below_drew ?_ | with_reducible refine below_drewN ?_ _ | with_reducible refine below_alloc ?_ (Nat.le_refl _) _ | with_reducible refine Below.setCell ?_ (by first | exact Nat.le_refl _ | (simp only []; omega)) _ | with_reducible assumption)))
        obtain ⟨gb', go', hbo, K⟩ := hbx.rd (by omega)
        obtain ⟨rfl, rfl⟩ : gb' = gb ∧ go' = go := by simpa using hbo.symm
        have k16 := K 16 (by omega)
        clear K hbo
        have k16a : ∀ o, (((w.alloc (.cells #[.int .i64 0, .int .u16 0, .int .u16 0, .int .u8 0] 29)).drewN (d2 + d3 + d4 + d5 + d6)).alloc o).cell? ⟨gb', go' + 16, none⟩ = some (.int .u8 (bt l 16)) := by
          intro o
          have hby : Bs (((w.alloc (.cells #[.int .i64 0, .int .u16 0, .int .u16 0, .int .u8 0] 29)).drewN (d2 + d3 + d4 + d5 + d6)).alloc o) (some ⟨gb', go', none⟩) n c l := hb.below (by (repeat (first | with_reducible exact Below.refl _ _ | with_reducible refine below_drew ?_ | with_reducible refine below_drewN ?_ _ | with_reducible refine below_alloc ?_ (Nat.le_refl _) _ | with_reducible refine Below.setCell ?_ (by first | exact Nat.le_refl _ | (simp only []; omega)) _ | with_reducible assumption)))
          obtain ⟨gb2, go2, hbo2, K2⟩ := hby.rd (by omega)
          obtain ⟨rfl, rfl⟩ : gb' = gb2 ∧ go' = go2 := by simpa using hbo2
          exact K2 16 (by omega)
        go_region_with (first
          | (go_at_call 24; ((with_reducible refine (rget16_any (some ⟨gb', go', none⟩) n c l 12 _ (hb.below (by (repeat (first | with_reducible exact Below.refl _ _ | with_reducible refine below_drew ?_ | with_reducible refine below_drewN ?_ _ | with_reducible refine below_alloc ?_ (Nat.le_refl _) _ | with_reducible refine Below.setCell ?_ (by first | exact Nat.le_refl _ | (simp only []; omega)) _ | with_reducible assumption))))).mono ?_); rintro e w8 ⟨rfl, ⟨⟨d8, rfl⟩⟩⟩))
          | (go_at_call 24; ((with_reducible refine (rget16_any (some ⟨gb', go', none⟩) n c l 14 _ (hb.below (by (repeat (first | with_reducible exact Below.refl _ _ | with_reducible refine below_drew ?_ | with_reducible refine below_drewN ?_ _ | with_reducible refine below_alloc ?_ (Nat.le_refl _) _ | with_reducible refine Below.setCell ?_ (by first | exact Nat.le_refl _ | (simp only []; omega)) _ | with_reducible assumption))))).mono ?_); rintro e w9 ⟨rfl, ⟨⟨d9, rfl⟩⟩⟩)))
        all_goals go_wp2_with fail
        all_goals refine bodyPost_ret (v := .tuple #[.agg #[.int .i64 t, .int .u16 (get16 l 12), .int .u16 (get16 l 14), .int .u8 (bt l 16)], .int .i64 0]) (by simp [results, Try.results11, go_sem]) rfl ⟨rfl, ?_⟩
        all_goals (repeat (first | with_reducible exact Below.refl _ _ | with_reducible refine below_drew ?_ | with_reducible refine below_drewN ?_ _ | with_reducible refine below_alloc ?_ (Nat.le_refl _) _ | with_reducible refine Below.setCell ?_ (by first | exact Nat.le_refl _ | (simp only []; omega)) _ | with_reducible assumption))
      · by_cases e15 : t = 15
        · have e15' : (t == 15) = true := by simpa using e15
          have e8' : (t == 8) = false := by simpa using e8
          have v1 : atP l (caT t) = 0 := by rw [e15]; rfl
          have v2 : atP l (peT t) = get16 l 12 := by rw [e15]; rfl
          have v3 : (if 0 < reT t then bt l (reT t).toNat else 0) = 0 := by rw [e15]; rfl
          rw [v1, v2, v3]
          clear v1 v2 v3 e15 e8 z1 z3
          go_enter Try.func11, Try.ntmps11
          go_wp2_with (first
            | (go_at_call 24; ((with_reducible refine (rget16_any A n c l 0 _ hb1).mono ?_); rintro e w2 ⟨rfl, ⟨⟨d2, rfl⟩⟩⟩))
            | (go_at_call 24; ((with_reducible refine (rget16_any A n c l 2 _ (hb1.drewN _)).mono ?_); rintro e w3 ⟨rfl, ⟨⟨d3, rfl⟩⟩⟩))
            | (go_at_call 25; ((with_reducible refine (rget32_any A n c l 4 _ (hb1.drewN _)).mono ?_); rintro e w4 ⟨rfl, ⟨⟨d4, rfl⟩⟩⟩))
            | (go_at_call 24; ((with_reducible refine (rget16_any A n c l 10 _ (hb1.drewN _)).mono ?_); rintro e w5 ⟨rfl, ⟨⟨d5, rfl⟩⟩⟩))
            | (go_at_call 24; ((with_reducible refine (rget16_any A n c l 8 _ (hb1.drewN _)).mono ?_); rintro e w6 ⟨rfl, ⟨⟨d6, rfl⟩⟩⟩))
            | (go_at_call 19; ((with_reducible refine (rsize_any t _).mono ?_); rintro e w7 ⟨rfl, rfl⟩))
            | (go_at_call 24; ((with_reducible refine (rget16_any A n c l 12 _ (hb.below (by (repeat (first | with_reducible exact Below.refl _ _ | with_reducible refine below_drew ?_ | with_reducible refine below_drewN ?_ _ | with_reducible refine below_alloc ?_ (Nat.le_refl _) _ | with_reducible refine Below.setCell ?_ (by first | exact Nat.le_refl _ | (simp only []; omega)) _ | with_reducible assumption))))).mono ?_); rintro e w8 ⟨rfl, ⟨⟨d8, rfl⟩⟩⟩)))
          refine bodyPost_ret (v := .tuple #[.agg #[.int .i64 t, .int .u16 0, .int .u16 (get16 l 12), .int .u8 0], .int .i64 0]) (by simp [results, Try.results11, go_sem]) rfl ⟨rfl, ?_⟩
          (repeat (first | with_reducible exact Below.refl _ _ | with_reducible refine below_drew ?_ | with_reducible refine below_drewN ?_ _ | with_reducible refine below_alloc ?_ (Nat.le_refl _) _ | with_reducible refine Below.setCell ?_ (by first | exact Nat.le_refl _ | (simp only []; omega)) _ | with_reducible assumption))
        · have e15' : (t == 15) = false := by simpa using e15
          have e8' : (t == 8) = false := by simpa using e8
          have hca : caT t = 12 := by
            unfold szT at z1
            unfold caT
            rw [if_neg e8, if_neg e15] at z1
            by_cases a7 : t = 7
            · rw [if_pos (.inl a7)]
            · by_cases a12 : t = 12
              · rw [if_pos (.inr (.inr (.inl a12)))]
              · by_cases a13 : t = 13
                · rw [if_pos (.inr (.inr (.inr a13)))]
                · rw [if_neg a7, if_neg a12, if_neg a13] at z1; exact absurd rfl z1
          have v1 : atP l (caT t) = get16 l 12 := by rw [hca]; rfl
          have v2 : atP l (peT t) = 0 := by unfold peT; rw [if_neg e8, if_neg e15]; rfl
          have v3 : (if 0 < reT t then bt l (reT t).toNat else 0) = 0 := by unfold reT; rw [if_neg e8]; rfl
          rw [v1, v2, v3]
          clear hca v1 v2 v3 e15 e8 z1 z3
          go_enter Try.func11, Try.ntmps11
          go_wp2_with (first
            | (go_at_call 24; ((with_reducible refine (rget16_any A n c l 0 _ hb1).mono ?_); rintro e w2 ⟨rfl, ⟨⟨d2, rfl⟩⟩⟩))
            | (go_at_call 24; ((with_reducible refine (rget16_any A n c l 2 _ (hb1.drewN _)).mono ?_); rintro e w3 ⟨rfl, ⟨⟨d3, rfl⟩⟩⟩))
            | (go_at_call 25; ((with_reducible refine (rget32_any A n c l 4 _ (hb1.drewN _)).mono ?_); rintro e w4 ⟨rfl, ⟨⟨d4, rfl⟩⟩⟩))
            | (go_at_call 24; ((with_reducible refine (rget16_any A n c l 10 _ (hb1.drewN _)).mono ?_); rintro e w5 ⟨rfl, ⟨⟨d5, rfl⟩⟩⟩))
            | (go_at_call 24; ((with_reducible refine (rget16_any A n c l 8 _ (hb1.drewN _)).mono ?_); rintro e w6 ⟨rfl, ⟨⟨d6, rfl⟩⟩⟩))
            | (go_at_call 19; ((with_reducible refine (rsize_any t _).mono ?_); rintro e w7 ⟨rfl, rfl⟩))
            | (go_at_call 24; ((with_reducible refine (rget16_any A n c l 12 _ (hb.below (by (repeat (first | with_reducible exact Below.refl _ _ | with_reducible refine below_drew ?_ | with_reducible refine below_drewN ?_ _ | with_reducible refine below_alloc ?_ (Nat.le_refl _) _ | with_reducible refine Below.setCell ?_ (by first | exact Nat.le_refl _ | (simp only []; omega)) _ | with_reducible assumption))))).mono ?_); rintro e w8 ⟨rfl, ⟨⟨d8, rfl⟩⟩⟩)))
          refine bodyPost_ret (v := .tuple #[.agg #[.int .i64 t, .int .u16 (get16 l 12), .int .u16 0, .int .u8 0], .int .i64 0]) (by simp [results, Try.results11, go_sem]) rfl ⟨rfl, ?_⟩
          (repeat (first | with_reducible exact Below.refl _ _ | with_reducible refine below_drew ?_ | with_reducible refine below_drewN ?_ _ | with_reducible refine below_alloc ?_ (Nat.le_refl _) _ | with_reducible refine Below.setCell ?_ (by first | exact Nat.le_refl _ | (simp only []; omega)) _ | with_reducible assumption))
    · rw [if_neg z3] at hE
      rw [pM_bad (by omega), hE]
      have z4 : (szT t != n) = true := by simpa using z3
      clear z1 z3 hE hM0 hh
      go_enter Try.func11, Try.ntmps11
      go_wp2_with (first
        | (go_at_call 24; ((with_reducible refine (rget16_any A n c l 0 _ hb1).mono ?_); rintro e w2 ⟨rfl, ⟨⟨d2, rfl⟩⟩⟩))
        | (go_at_call 24; ((with_reducible refine (rget16_any A n c l 2 _ (hb1.drewN _)).mono ?_); rintro e w3 ⟨rfl, ⟨⟨d3, rfl⟩⟩⟩))
        | (go_at_call 25; ((with_reducible refine (rget32_any A n c l 4 _ (hb1.drewN _)).mono ?_); rintro e w4 ⟨rfl, ⟨⟨d4, rfl⟩⟩⟩))
        | (go_at_call 24; ((with_reducible refine (rget16_any A n c l 10 _ (hb1.drewN _)).mono ?_); rintro e w5 ⟨rfl, ⟨⟨d5, rfl⟩⟩⟩))
        | (go_at_call 24; ((with_reducible refine (rget16_any A n c l 8 _ (hb1.drewN _)).mono ?_); rintro e w6 ⟨rfl, ⟨⟨d6, rfl⟩⟩⟩))
        | (go_at_call 19; ((with_reducible refine (rsize_any t _).mono ?_); rintro e w7 ⟨rfl, rfl⟩))
        | (go_at_call 24; ((with_reducible refine (rget16_any A n c l 12 _ (hb.below (by (repeat (first | with_reducible exact Below.refl _ _ | with_reducible refine below_drew ?_ | with_reducible refine below_drewN ?_ _ | with_reducible refine below_alloc ?_ (Nat.le_refl _) _ | with_reducible refine Below.setCell ?_ (by first | exact Nat.le_refl _ | (simp only []; omega)) _ | with_reducible assumption))))).mono ?_); rintro e w8 ⟨rfl, ⟨⟨d8, rfl⟩⟩⟩)))
      refine bodyPost_ret (v := .tuple #[.agg #[.int .i64 0, .int .u16 0, .int .u16 0, .int .u8 0], .int .i64 4]) (by simp [results, Try.results11, go_sem]) rfl ⟨rfl, ?_⟩
      (repeat (first | with_reducible exact Below.refl _ _ | with_reducible refine below_drew ?_ | with_reducible refine below_drewN ?_ _ | with_reducible refine below_alloc ?_ (Nat.le_refl _) _ | with_reducible refine Below.setCell ?_ (by first | exact Nat.le_refl _ | (simp only []; omega)) _ | with_reducible assumption))
end Go.Proofs.Ytkiiaaadcfaojaa

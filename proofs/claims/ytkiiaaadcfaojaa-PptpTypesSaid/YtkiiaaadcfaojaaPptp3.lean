import Derived.Test.YtkiiaaadcfaojaaPptp2
namespace Go.Proofs.Ytkiiaaadcfaojaa
open Go.RowKit Go.MapKept
set_option linter.unusedVariables false
set_option maxHeartbeats 4000000

theorem parse_go (b off n c : Nat) (l : List UInt8) (w : World) (hb : Bs w (some ⟨b, off, none⟩) n c l) (h : 12 ≤ n) (hh : headB l n = true) (hn : n ≤ 65535) :
    Calls Try.prog 10 #[.slice (some ⟨b, off, none⟩) n c] w fun e w' => e = .returned (.tuple #[pM l, .int .i64 (pE l)]) ∧ Below w.heap.size w w' := by
  have hcap := hb.cap
  have p1 : ¬ (n : Int) < 12 := by omega
  have p2 : ¬ 65535 < (n : Int) := by omega
  have hc12 : (12 : Int) ≤ c := by omega
  have harr : ∀ W, (Instr.arrayAt 42 (.slice (some ⟨b, off, none⟩) 12 c)).run Try.prog W = .ok (.pointer (some ⟨b, off, none⟩)) W := by
    intro W
    simp [Instr.arrayAt, run_underlying Try.underlying42, Result.andThen]
  have hbw : Bs (w.alloc (.cells #[.int .i64 0, .int .u16 0, .int .u16 0, .int .u8 0] 25)) (some ⟨b, off, none⟩) n c l := hb.alloc _
  obtain ⟨b', off', hbo, K⟩ := hbw.rd (by omega)
  obtain ⟨rfl, rfl⟩ : b' = b ∧ off' = off := by simpa using hbo.symm
  have k0 := K 0 (by omega)
  have k1 := K 1 (by omega)
  have k2 := K 2 (by omega)
  have k3 := K 3 (by omega)
  have k4 := K 4 (by omega)
  have k5 := K 5 (by omega)
  have k6 := K 6 (by omega)
  have k7 := K 7 (by omega)
  have k8 := K 8 (by omega)
  have k9 := K 9 (by omega)
  have k10 := K 10 (by omega)
  have k11 := K 11 (by omega)
  simp only [Nat.add_zero] at k0
  clear K hbo
  have heq := eq_head l n
  have e256 : (n : Int) / 256 % 256 = n / 256 := by omega
  simp only [hh] at heq
  rw [e256] at heq
  obtain ⟨t, ht⟩ : ∃ t, get16 l 8 = t := ⟨_, rfl⟩
  have t0 : 0 ≤ t := by rw [← ht]; exact get16_lo l 8
  have t1 : t ≤ 65535 := by rw [← ht]; exact get16_hi l 8
  have tw : wrap64 t = t := by unfold wrap64; omega
  have hlk : ∀ (W : World) (r : Nat), W.heap[r]? = some (.map (lays 5) 5) → (Instr.lookup 47 (.map (some r)) (.int .i64 t) true).run Try.prog W =
    .ok (.tuple #[.agg #[.int .i64 (szT t), .int .i64 (caT t), .int .i64 (peT t), .int .i64 (reT t)], .bool (szT t != 0)]) W := fun W r h => run_lay h t true
  have hsd : ∀ (W : World) (d : Nat) (p : Addr) (v : Value), (W.drewN d).setCell p v = (W.setCell p v).drewN d := setCell_drewN
  have Hh := Lib.hid hh
  clear hh
  go_enter Try.func10, Try.ntmps10
  go_wp2_with (go_at_call 21; ((with_reducible refine (get16_any (some ⟨b', off', none⟩) n c l 8 _ ((hbw.alloc _))).mono ?_); rintro e w2 ⟨rfl, ⟨⟨d2, rfl⟩⟩⟩))
  clear k0 k1 k2 k3 k4 k5 k6 k7 k8 k9 k10 k11 heq harr e256
  have hs3 : ((((w.alloc (.cells #[.int .i64 0, .int .u16 0, .int .u16 0, .int .u8 0] 25)).alloc (.cells #[.int .u8 (bt l 0), .int .u8 (bt l 1), .int .u8 (bt l 2), .int .u8 (bt l 3), .int .u8 (bt l 4), .int .u8 (bt l 5), .int .u8 (bt l 6), .int .u8 (bt l 7), .int .u8 0, .int .u8 0, .int .u8 (bt l 10), .int .u8 (bt l 11)] 42)).drewN d2).alloc (.cells #[.int .i64 t, .int .u16 0, .int .u16 0, .int .u8 0] 25)).heap.size = w.heap.size + 1 + 1 + 1 := by simp
  have f1 := hlk ((((((w.alloc (.cells #[.int .i64 0, .int .u16 0, .int .u16 0, .int .u8 0] 25)).alloc (.cells #[.int .u8 (bt l 0), .int .u8 (bt l 1), .int .u8 (bt l 2), .int .u8 (bt l 3), .int .u8 (bt l 4), .int .u8 (bt l 5), .int .u8 (bt l 6), .int .u8 (bt l 7), .int .u8 0, .int .u8 0, .int .u8 (bt l 10), .int .u8 (bt l 11)] 42)).drewN d2).alloc (.cells #[.int .i64 t, .int .u16 0, .int .u16 0, .int .u8 0] 25)).alloc (.map (lays 5) 5)).drew) _ (heap_alloc _ _).1
  have f2 := hlk (((((((w.alloc (.cells #[.int .i64 0, .int .u16 0, .int .u16 0, .int .u8 0] 25)).alloc (.cells #[.int .u8 (bt l 0), .int .u8 (bt l 1), .int .u8 (bt l 2), .int .u8 (bt l 3), .int .u8 (bt l 4), .int .u8 (bt l 5), .int .u8 (bt l 6), .int .u8 (bt l 7), .int .u8 0, .int .u8 0, .int .u8 (bt l 10), .int .u8 (bt l 11)] 42)).drewN d2).alloc (.cells #[.int .i64 t, .int .u16 0, .int .u16 0, .int .u8 0] 25)).alloc (.cells #[.int .i64 0, .int .i64 0, .int .i64 0, .int .i64 0] 45)).alloc (.map (lays 5) 5)).drew) _ (heap_alloc _ _).1
  have f3 := hlk (((((((w.alloc (.cells #[.int .i64 0, .int .u16 0, .int .u16 0, .int .u8 0] 25)).alloc (.cells #[.int .u8 (bt l 0), .int .u8 (bt l 1), .int .u8 (bt l 2), .int .u8 (bt l 3), .int .u8 (bt l 4), .int .u8 (bt l 5), .int .u8 (bt l 6), .int .u8 (bt l 7), .int .u8 0, .int .u8 0, .int .u8 (bt l 10), .int .u8 (bt l 11)] 42)).drewN d2).alloc (.cells #[.int .i64 t, .int .u16 0, .int .u16 0, .int .u8 0] 25)).alloc (.map (lays 5) 5)).alloc (.cells #[.int .i64 0, .int .i64 0, .int .i64 0, .int .i64 0] 45)).drew) _ (((heap_alloc _ _).2 _ (by simp)).trans (heap_alloc ((((w.alloc (.cells #[.int .i64 0, .int .u16 0, .int .u16 0, .int .u8 0] 25)).alloc (.cells #[.int .u8 (bt l 0), .int .u8 (bt l 1), .int .u8 (bt l 2), .int .u8 (bt l 3), .int .u8 (bt l 4), .int .u8 (bt l 5), .int .u8 (bt l 6), .int .u8 (bt l 7), .int .u8 0, .int .u8 0, .int .u8 (bt l 10), .int .u8 (bt l 11)] 42)).drewN d2).alloc (.cells #[.int .i64 t, .int .u16 0, .int .u16 0, .int .u8 0] 25)) _).1)
  have hs4 : (((((w.alloc (.cells #[.int .i64 0, .int .u16 0, .int .u16 0, .int .u8 0] 25)).alloc (.cells #[.int .u8 (bt l 0), .int .u8 (bt l 1), .int .u8 (bt l 2), .int .u8 (bt l 3), .int .u8 (bt l 4), .int .u8 (bt l 5), .int .u8 (bt l 6), .int .u8 (bt l 7), .int .u8 0, .int .u8 0, .int .u8 (bt l 10), .int .u8 (bt l 11)] 42)).drewN d2).alloc (.cells #[.int .i64 t, .int .u16 0, .int .u16 0, .int .u8 0] 25)).alloc (.cells #[.int .i64 0, .int .i64 0, .int .i64 0, .int .i64 0] 45)).heap.size = w.heap.size + 1 + 1 + 1 + 1 := by simp
  rw [hs3] at f1 f3
  rw [hs4] at f2
  clear hs3 hs4 hlk
  go_cut [6, 7] from 38 to 44 (fun v6 v7 wx => v7 = .bool (szT t != 0) ∧ ((v6 = .pointer (some ⟨w.heap.size + 1 + 1 + 1 + 1, 0, none⟩) ∧ wx = ((((((w.alloc (.cells #[.int .i64 0, .int .u16 0, .int .u16 0, .int .u8 0] 25)).alloc (.cells #[.int .u8 (bt l 0), .int .u8 (bt l 1), .int .u8 (bt l 2), .int .u8 (bt l 3), .int .u8 (bt l 4), .int .u8 (bt l 5), .int .u8 (bt l 6), .int .u8 (bt l 7), .int .u8 0, .int .u8 0, .int .u8 (bt l 10), .int .u8 (bt l 11)] 42)).drewN d2).alloc (.cells #[.int .i64 t, .int .u16 0, .int .u16 0, .int .u8 0] 25)).alloc (.map (lays 5) 5)).alloc (.cells #[.int .i64 (szT t), .int .i64 (caT t), .int .i64 (peT t), .int .i64 (reT t)] 45)).drew) ∨ (v6 = .pointer (some ⟨w.heap.size + 1 + 1 + 1, 0, none⟩) ∧ wx = ((((((w.alloc (.cells #[.int .i64 0, .int .u16 0, .int .u16 0, .int .u8 0] 25)).alloc (.cells #[.int .u8 (bt l 0), .int .u8 (bt l 1), .int .u8 (bt l 2), .int .u8 (bt l 3), .int .u8 (bt l 4), .int .u8 (bt l 5), .int .u8 (bt l 6), .int .u8 (bt l 7), .int .u8 0, .int .u8 0, .int .u8 (bt l 10), .int .u8 (bt l 11)] 42)).drewN d2).alloc (.cells #[.int .i64 t, .int .u16 0, .int .u16 0, .int .u8 0] 25)).alloc (.cells #[.int .i64 (szT t), .int .i64 (caT t), .int .i64 (peT t), .int .i64 (reT t)] 45)).alloc (.map (lays 5) 5)).drew)))
  case first =>
    go_region_with (go_at_call 22; ((with_reducible refine (layouts_any _).mono ?_); rintro e w9 ⟨rfl, rfl⟩))
    all_goals go_wp2_with fail
    all_goals go_meet
    all_goals first | exact ⟨rfl, .inl ⟨rfl, rfl⟩⟩ | exact ⟨rfl, .inr ⟨rfl, rfl⟩⟩
  case rest =>
    clear f1 f2 f3
    obtain ⟨rfl, hcut⟩ := hcut
    by_cases z1 : szT t = 0
    · have z2 : (szT t != 0) = false := by simp [z1]
      have hE : pE l = 12 := by unfold pE; rw [hb.len, if_neg (by omega), if_pos ⟨Hh.out, hn⟩, ht, if_pos z1]
      have hM := pM_bad (l := l) (by omega)
      have HE := Lib.hid hE
      have HM := Lib.hid hM
      clear hE hM
      rcases hcut with ⟨rfl, rfl⟩ | ⟨rfl, rfl⟩
      all_goals
        go_wp2_with fail
        refine bodyPost_ret (v := .tuple #[.agg #[.int .i64 0, .int .u16 0, .int .u16 0, .int .u8 0], .int .i64 12]) (by simp [results, Try.results10, go_sem]) rfl ⟨by rw [HM.out, HE.out], ?_⟩
        (repeat (first | with_reducible exact Below.refl _ _ | with_reducible refine below_drew ?_ | with_reducible refine below_drewN ?_ _ | with_reducible refine below_alloc ?_ (Nat.le_refl _) _ | with_reducible refine Below.setCell ?_ (by first | exact Nat.le_refl _ | (simp only []; omega)) _ | with_reducible assumption))
    · have z2 : (szT t != 0) = true := by simpa using z1
      clear z1
      by_cases z3 : szT t = n
      · have z4 : (szT t != n) = false := by simpa using z3
        have hE : pE l = 0 := by
          unfold pE
          rw [hb.len, if_neg (by omega), if_pos ⟨Hh.out, hn⟩, ht, if_neg (by simpa using z2), if_pos z3]
        have HM : Hid (pM l = .agg #[.int .i64 t, .int .u16 (atP l (caT t)), .int .u16 (atP l (peT t)), .int .u8 (if 0 < reT t then bt l (reT t).toNat else 0)]) := by
          unfold Hid pM pT pC pP pR
          rw [if_pos hE, if_pos hE, if_pos hE, if_pos hE, ht]
        have HE := Lib.hid hE
        have Z3 := Lib.hid z3
        clear hE z3
        rcases hcut with ⟨rfl, rfl⟩ | ⟨rfl, rfl⟩
        · go_upto_region 13 with fail
          clear z2 z4
          go_cut [5] from 56 to 65 (fun v5 wx => v5 = .pointer (some ⟨w.heap.size + 1 + 1, 0, none⟩) ∧ ∃ d3, wx = ((((((w.alloc (.cells #[.int .i64 0, .int .u16 0, .int .u16 0, .int .u8 0] 25)).alloc (.cells #[.int .u8 (bt l 0), .int .u8 (bt l 1), .int .u8 (bt l 2), .int .u8 (bt l 3), .int .u8 (bt l 4), .int .u8 (bt l 5), .int .u8 (bt l 6), .int .u8 (bt l 7), .int .u8 0, .int .u8 0, .int .u8 (bt l 10), .int .u8 (bt l 11)] 42)).drewN d2).alloc (.cells #[.int .i64 t, .int .u16 (atP l (caT t)), .int .u16 (atP l (peT t)), .int .u8 0] 25)).alloc (.map (lays 5) 5)).alloc (.cells #[.int .i64 (szT t), .int .i64 (caT t), .int .i64 (peT t), .int .i64 (reT t)] 45)).drewN d3)
          case first =>
            go_region_with (go_at_call 23; ((with_reducible refine (at_any (some ⟨b', off', none⟩) n c l _ _ (hb.below (by (repeat (first | with_reducible exact Below.refl _ _ | with_reducible refine below_drew ?_ | with_reducible refine below_drewN ?_ _ | with_reducible refine below_alloc ?_ (Nat.le_refl _) _ | with_reducible refine Below.setCell ?_ (by first | exact Nat.le_refl _ | (simp only []; omega)) _ | with_reducible assumption))))).mono ?_); rintro e w9 ⟨rfl, ⟨⟨d9, rfl⟩⟩⟩))
            all_goals go_wp2_with fail
            all_goals go_meet
            all_goals first | exact ⟨rfl, _, rfl⟩ | exact ⟨rfl, fold_two (by simp [go_sem])⟩
          case rest =>
            obtain ⟨rfl, d3, rfl⟩ := hcut
            have hbx : Bs (((((((w.alloc (.cells #[.int .i64 0, .int .u16 0, .int .u16 0, .int .u8 0] 25)).alloc (.cells #[.int .u8 (bt l 0), .int .u8 (bt l 1), .int .u8 (bt l 2), .int .u8 (bt l 3), .int .u8 (bt l 4), .int .u8 (bt l 5), .int .u8 (bt l 6), .int .u8 (bt l 7), .int .u8 0, .int .u8 0, .int .u8 (bt l 10), .int .u8 (bt l 11)] 42)).drewN d2).alloc (.cells #[.int .i64 t, .int .u16 (atP l (caT t)), .int .u16 (atP l (peT t)), .int .u8 0] 25)).alloc (.map (lays 5) 5)).alloc (.cells #[.int .i64 (szT t), .int .i64 (caT t), .int .i64 (peT t), .int .i64 (reT t)] 45))) (some ⟨b', off', none⟩) n c l := hb.below (by (repeat (first | with_reducible exact Below.refl _ _ | with_reducible refine below_drew ?_ | with_reducible refine below_drewN ?_ _ | with_reducible refine below_alloc ?_ (Nat.le_refl _) _ | with_reducible refine Below.setCell ?_ (by first | exact Nat.le_refl _ | (simp only []; omega)) _ | with_reducible assumption)))
            by_cases z5 : t = 8
            · obtain ⟨b2, off2, hbo2, K2⟩ := hbx.rd (by omega)
              obtain ⟨rfl, rfl⟩ : b2 = b' ∧ off2 = off' := by simpa using hbo2.symm
              have hn32 : (n : Int) = 32 := by rw [← Z3.out, z5]; rfl
              have k16 := K2 16 (by omega)
              have hr : reT t = 16 := by rw [z5]; rfl
              rw [hr] at k16
              have hi0 : (16 : Int) < n := by omega
              clear K2 hbo2 hn32 z5
              go_wp2_with fail
              refine bodyPost_ret (v := .tuple #[.agg #[.int .i64 t, .int .u16 (atP l (caT t)), .int .u16 (atP l (peT t)), .int .u8 (bt l 16)], .int .i64 0]) (by simp [results, Try.results10, go_sem]) rfl ⟨by rw [HM.out, HE.out, hr]; rfl, ?_⟩
              (repeat (first | with_reducible exact Below.refl _ _ | with_reducible refine below_drew ?_ | with_reducible refine below_drewN ?_ _ | with_reducible refine below_alloc ?_ (Nat.le_refl _) _ | with_reducible refine Below.setCell ?_ (by first | exact Nat.le_refl _ | (simp only []; omega)) _ | with_reducible assumption))
            · have hr : reT t = 0 := by unfold reT; rw [if_neg z5]
              clear z5
              go_wp2_with fail
              refine bodyPost_ret (v := .tuple #[.agg #[.int .i64 t, .int .u16 (atP l (caT t)), .int .u16 (atP l (peT t)), .int .u8 0], .int .i64 0]) (by simp [results, Try.results10, go_sem]) rfl ⟨by rw [HM.out, HE.out, hr]; rfl, ?_⟩
              (repeat (first | with_reducible exact Below.refl _ _ | with_reducible refine below_drew ?_ | with_reducible refine below_drewN ?_ _ | with_reducible refine below_alloc ?_ (Nat.le_refl _) _ | with_reducible refine Below.setCell ?_ (by first | exact Nat.le_refl _ | (simp only []; omega)) _ | with_reducible assumption))
        · go_upto_region 13 with fail
          clear z2 z4
          go_cut [5] from 56 to 65 (fun v5 wx => v5 = .pointer (some ⟨w.heap.size + 1 + 1, 0, none⟩) ∧ ∃ d3, wx = ((((((w.alloc (.cells #[.int .i64 0, .int .u16 0, .int .u16 0, .int .u8 0] 25)).alloc (.cells #[.int .u8 (bt l 0), .int .u8 (bt l 1), .int .u8 (bt l 2), .int .u8 (bt l 3), .int .u8 (bt l 4), .int .u8 (bt l 5), .int .u8 (bt l 6), .int .u8 (bt l 7), .int .u8 0, .int .u8 0, .int .u8 (bt l 10), .int .u8 (bt l 11)] 42)).drewN d2).alloc (.cells #[.int .i64 t, .int .u16 (atP l (caT t)), .int .u16 (atP l (peT t)), .int .u8 0] 25)).alloc (.cells #[.int .i64 (szT t), .int .i64 (caT t), .int .i64 (peT t), .int .i64 (reT t)] 45)).alloc (.map (lays 5) 5)).drewN d3)
          case first =>
            go_region_with (go_at_call 23; ((with_reducible refine (at_any (some ⟨b', off', none⟩) n c l _ _ (hb.below (by (repeat (first | with_reducible exact Below.refl _ _ | with_reducible refine below_drew ?_ | with_reducible refine below_drewN ?_ _ | with_reducible refine below_alloc ?_ (Nat.le_refl _) _ | with_reducible refine Below.setCell ?_ (by first | exact Nat.le_refl _ | (simp only []; omega)) _ | with_reducible assumption))))).mono ?_); rintro e w9 ⟨rfl, ⟨⟨d9, rfl⟩⟩⟩))
            all_goals go_wp2_with fail
            all_goals go_meet
            all_goals first | exact ⟨rfl, _, rfl⟩ | exact ⟨rfl, fold_two (by simp [go_sem])⟩
          case rest =>
            obtain ⟨rfl, d3, rfl⟩ := hcut
            have hbx : Bs (((((((w.alloc (.cells #[.int .i64 0, .int .u16 0, .int .u16 0, .int .u8 0] 25)).alloc (.cells #[.int .u8 (bt l 0), .int .u8 (bt l 1), .int .u8 (bt l 2), .int .u8 (bt l 3), .int .u8 (bt l 4), .int .u8 (bt l 5), .int .u8 (bt l 6), .int .u8 (bt l 7), .int .u8 0, .int .u8 0, .int .u8 (bt l 10), .int .u8 (bt l 11)] 42)).drewN d2).alloc (.cells #[.int .i64 t, .int .u16 (atP l (caT t)), .int .u16 (atP l (peT t)), .int .u8 0] 25)).alloc (.cells #[.int .i64 (szT t), .int .i64 (caT t), .int .i64 (peT t), .int .i64 (reT t)] 45)).alloc (.map (lays 5) 5))) (some ⟨b', off', none⟩) n c l := hb.below (by (repeat (first | with_reducible exact Below.refl _ _ | with_reducible refine below_drew ?_ | with_reducible refine below_drewN ?_ _ | with_reducible refine below_alloc ?_ (Nat.le_refl _) _ | with_reducible refine Below.setCell ?_ (by first | exact Nat.le_refl _ | (simp only []; omega)) _ | with_reducible assumption)))
            by_cases z5 : t = 8
            · obtain ⟨b2, off2, hbo2, K2⟩ := hbx.rd (by omega)
              obtain ⟨rfl, rfl⟩ : b2 = b' ∧ off2 = off' := by simpa using hbo2.symm
              have hn32 : (n : Int) = 32 := by rw [← Z3.out, z5]; rfl
              have k16 := K2 16 (by omega)
              have hr : reT t = 16 := by rw [z5]; rfl
              rw [hr] at k16
              have hi0 : (16 : Int) < n := by omega
              clear K2 hbo2 hn32 z5
              go_wp2_with fail
              refine bodyPost_ret (v := .tuple #[.agg #[.int .i64 t, .int .u16 (atP l (caT t)), .int .u16 (atP l (peT t)), .int .u8 (bt l 16)], .int .i64 0]) (by simp [results, Try.results10, go_sem]) rfl ⟨by rw [HM.out, HE.out, hr]; rfl, ?_⟩
              (repeat (first | with_reducible exact Below.refl _ _ | with_reducible refine below_drew ?_ | with_reducible refine below_drewN ?_ _ | with_reducible refine below_alloc ?_ (Nat.le_refl _) _ | with_reducible refine Below.setCell ?_ (by first | exact Nat.le_refl _ | (simp only []; omega)) _ | with_reducible assumption))
            · have hr : reT t = 0 := by unfold reT; rw [if_neg z5]
              clear z5
              go_wp2_with fail
              refine bodyPost_ret (v := .tuple #[.agg #[.int .i64 t, .int .u16 (atP l (caT t)), .int .u16 (atP l (peT t)), .int .u8 0], .int .i64 0]) (by simp [results, Try.results10, go_sem]) rfl ⟨by rw [HM.out, HE.out, hr]; rfl, ?_⟩
              (repeat (first | with_reducible exact Below.refl _ _ | with_reducible refine below_drew ?_ | with_reducible refine below_drewN ?_ _ | with_reducible refine below_alloc ?_ (Nat.le_refl _) _ | with_reducible refine Below.setCell ?_ (by first | exact Nat.le_refl _ | (simp only []; omega)) _ | with_reducible assumption))
      · have z4 : (szT t != n) = true := by simpa using z3
        have hE : pE l = 4 := by
          unfold pE
          rw [hb.len, if_neg (by omega), if_pos ⟨Hh.out, hn⟩, ht, if_neg (by simpa using z2), if_neg z3]
        have HE := Lib.hid hE
        have HM := Lib.hid (pM_bad (l := l) (by omega))
        clear hE z3
        rcases hcut with ⟨rfl, rfl⟩ | ⟨rfl, rfl⟩
        all_goals
          go_wp2_with fail
          refine bodyPost_ret (v := .tuple #[.agg #[.int .i64 0, .int .u16 0, .int .u16 0, .int .u8 0], .int .i64 4]) (by simp [results, Try.results10, go_sem]) rfl ⟨by rw [HM.out, HE.out], ?_⟩
          (repeat (first | with_reducible exact Below.refl _ _ | with_reducible refine below_drew ?_ | with_reducible refine below_drewN ?_ _ | with_reducible refine below_alloc ?_ (Nat.le_refl _) _ | with_reducible refine Below.setCell ?_ (by first | exact Nat.le_refl _ | (simp only []; omega)) _ | with_reducible assumption))
theorem parse_any (A : Option Addr) (n c : Nat) (l : List UInt8) (w : World) (hb : Bs w A n c l) :
    Calls Try.prog 10 #[.slice A n c] w fun e w' => e = .returned (.tuple #[pM l, .int .i64 (pE l)]) ∧ Below w.heap.size w w' := by
  by_cases h : n < 12
  · exact parse_short A n c l w hb h
  · obtain ⟨b, off, rfl, _⟩ := hb.rd (by omega)
    by_cases hh : headB l n = true ∧ n ≤ 65535
    · exact parse_go b off n c l w hb (by omega) hh.1 hh.2
    · exact parse_form b off n c l w hb (by omega) hh
end Go.Proofs.Ytkiiaaadcfaojaa

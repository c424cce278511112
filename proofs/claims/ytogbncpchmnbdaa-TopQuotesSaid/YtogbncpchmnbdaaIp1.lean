import Derived.Test.YtogbncpchmnbdaaReg
import Derived.Test.YtogbncpchmnbdaaWire
import Derived.Test.YtogbncpchmnbdaaSum
import Derived.Test.YtogbncpchmnbdaaSmall
import Derived.Test.YtogbncpchmnbdaaBits
import Derived.Test.YtogbncpchmnbdaaPkt
import Derived.WalkLawsBesides
namespace Go.Proofs.Ytogbncpchmnbdaa
open Go.RowKit
set_option linter.unusedVariables false
set_option linter.unusedSimpArgs false
set_option maxHeartbeats 4000000

theorem str_toList (l : List UInt8) : (str l).toList = l := by rw [ByteArray.toList_eq]; rfl
theorem str_beq (l m : List UInt8) : ((str l).toList == (str m).toList) = (l == m) := by rw [str_toList, str_toList]
theorem bequal_any (A : Option Addr) (n c : Nat) (l : List UInt8) (A2 : Option Addr) (n2 c2 : Nat) (l2 : List UInt8) (w : World) (hb : Bs w A n c l) (hb2 : Bs w A2 n2 c2 l2) :
    Calls Try.prog 47 #[.slice A n c, .slice A2 n2 c2] w fun e w' => e = .returned (.bool (l == l2)) ∧ w = w' := by
  have c1 := cv hb
  have c2' := cv hb2
  have hs := str_beq l l2
  go_enter Try.func47, Try.ntmps47
  go_wp2
  go_ret
  exact ⟨rfl, rfl⟩
/-- What 'may' gives up with. -/
def fault (e : Int) : Value := .iface 87 (.agg #[.int .i64 e])
theorem may_yes (e : Int) (w : World) : Calls Try.prog 73 #[.bool true, .int .i64 e] w fun r w' => r = .returned (.tuple #[]) ∧ w = w' := by
  go_enter Try.func73, Try.ntmps73
  go_wp2
  go_end0
  exact ⟨rfl, rfl⟩
theorem may_no (e : Int) (w : World) : Calls Try.prog 73 #[.bool false, .int .i64 e] w fun r w' => r = .panicked [{ v := fault e, recovered := false }] ∧ w = w' := by
  go_enter Try.func73, Try.ntmps73
  go_wp2
  exact ⟨rfl, rfl, rfl⟩
structure LenPost (w0 : World) (k r : Nat) (cs : Array Value) (tr : TypeId) (A : Option Addr) (n c : Nat) (l : List UInt8) (q : Bool) (e : Ending) (w' : World) : Prop where
  bel : Below w0.heap.size w0 w'
  ok : lenE q l = 0 → e = .returned (.tuple #[]) ∧ Blk w' k #[.int .i64 (hdOf l), .int .i64 (alOf l), .slice A n c] 92 ∧ Blk w' r cs tr
  no : lenE q l ≠ 0 → e = .panicked [{ v := fault (lenE q l), recovered := false }]
theorem lenPost_no {w0 : World} {k r : Nat} {cs : Array Value} {tr : TypeId} {A : Option Addr} {n c : Nat} {l : List UInt8} {q : Bool} {w' : World} (x : Int) (hE : lenE q l = x) (hx : x ≠ 0) (hB : Below w0.heap.size w0 w') :
    LenPost w0 k r cs tr A n c l q (.panicked [{ v := fault x, recovered := false }]) w' := ⟨hB, fun h => absurd (hE.symm.trans h) hx, fun _ => by rw [hE]⟩
theorem lengths_any (w0 : World) (k : Nat) (A : Option Addr) (n c : Nat) (l : List UInt8) (q : Bool) (w : World) (hb : Bs w0 A n c l) (T : Below w0.heap.size w0 w) (hk : w0.heap.size ≤ k) (K : Blk w k #[.int .i64 0, .int .i64 0, .slice A n c] 92) (r : Nat) (cs : Array Value) (tr : TypeId) (hr : r ≠ k) (R : Blk w r cs tr) :
    Calls Try.prog 72 #[.pointer (some ⟨k, 0, none⟩), .bool q] w (LenPost w0 k r cs tr A n c l q) := by
  have hlen := hb.len
  have hmax := hb.max
  have kc := K.cell
  go_enter Try.func72, Try.ntmps72
  go_wp2_with fail
  by_cases h1 : (20 : Int) ≤ n
  · rw [decide_eq_true h1]
    obtain ⟨b, off, rfl, hc⟩ := (hb.below T).rd (by omega)
    have c0 := hc 0 (by omega)
    rw [Nat.add_zero] at c0
    have b0 := bt_lo l 0
    have b0' := bt_hi l 0
    have hand := and_u8_15 b0 b0'
    have hn0 : (0 : Int) < n := by omega
    clear hc
    refine (may_yes _ _).mono ?_
    rintro e w' ⟨rfl, rfl⟩
    go_wp2_with fail
    by_cases h2 : bt l 0 / 16 = 4
    · rw [show (bt l 0 / 16 == 4) = true from by simpa using h2]
      refine (may_yes _ _).mono ?_
      rintro e w' ⟨rfl, rfl⟩
      have K1 : Blk (w.setCell ⟨k, 0, none⟩ (.int .i64 (4 * (bt l 0 % 16)))) k #[.int .i64 (4 * (bt l 0 % 16)), .int .i64 0, .slice (some ⟨b, off, none⟩) n c] 92 := K.set_ 0 _
      have T1 := T.setCell (p := ⟨k, 0, none⟩) hk (.int .i64 (4 * (bt l 0 % 16)))
      have R1 := R.far ⟨k, 0, none⟩ (Ne.symm hr) (.int .i64 (4 * (bt l 0 % 16)))
      have kc1 := K1.cell
      go_wp2_with fail
      clear kc hand c0
      obtain ⟨w1, hw1⟩ : ∃ w1, w.setCell ⟨k, 0, none⟩ (.int .i64 (4 * (bt l 0 % 16))) = w1 := ⟨_, rfl⟩
      rw [hw1] at K1 T1 kc1 R1 ⊢
      clear hw1 T K R
      obtain ⟨h, hh⟩ : ∃ h, hdOf l = h := ⟨_, rfl⟩
      have hh' : 4 * (bt l 0 % 16) = h := hh
      rw [hh'] at K1 kc1 ⊢
      have h0 : 0 ≤ h := by omega
      have h60 : h ≤ 60 := by omega
      by_cases h3 : (20 : Int) ≤ h
      · rw [decide_eq_true h3]
        refine (may_yes _ _).mono ?_
        rintro e w' ⟨rfl, rfl⟩
        go_wp2_with fail
        refine region_txt 11 (by kernel_rfl) (by kernel_rfl) ?_; (iterate 11 (first | (apply ObsK.skip (by rfl)) | (apply ObsK.v (by rfl); (intro wo hT; (repeat (first | (intro _ _ k; try have hcv := cv k))); (have kc2 := (K1.below hT).cell); refine Goes.mk ?_; go_simp; first | exact goes_v | exact goes_b (by assumption) | (refine goes_enter ?_; first | fail))) | (apply ObsK.b (by rfl); (intro wo hT; (repeat (first | (intro _ _ k; try have hcv := cv k))); (have kc2 := (K1.below hT).cell); refine Goes.mk ?_; go_simp; first | exact goes_v | exact goes_b (by assumption) | (refine goes_enter ?_; first | fail))))); refine ObsK.nil ?_; intro wz hBz; simp only [finOn, List.drop_succ_cons, List.drop_zero, List.drop_nil]
        go_simp
        have K2 := K1.below hBz
        have T2 := below_then T1 hBz
        have R2 := R1.below hBz
        clear kc1 K1 hBz T1 R1
        go_wp2_with fail
        obtain ⟨g, hg⟩ : ∃ g, get16 l 2 = g := ⟨_, rfl⟩
        have g0 : 0 ≤ g := by rw [← hg]; exact get16_lo l 2
        have g1 : g ≤ 65535 := by rw [← hg]; exact get16_hi l 2
        by_cases h4 : h ≤ (n : Int)
        · rw [decide_eq_true h4]
          refine (may_yes _ _).mono ?_
          rintro e w' ⟨rfl, rfl⟩
          have kd2 := K2.cell
          go_wp2_with (go_at_call 54; ((with_reducible refine (get16_any (some ⟨b, off, none⟩) n c l 2 wz (hb.below T2)).mono ?_); rintro e w3 ⟨rfl, hD⟩); have K3 := K2.below hD.bel; have T3 := below_then T2 hD.bel; have kc3 := K3.cell)
          have K4 : Blk (w3.setCell ⟨k, 1, none⟩ (.int .i64 g)) k #[.int .i64 h, .int .i64 g, .slice (some ⟨b, off, none⟩) n c] 92 := K3.set_ 1 _
          have T4 := T3.setCell (p := ⟨k, 1, none⟩) hk (.int .i64 g)
          have R4 := (R2.below hD.bel).far ⟨k, 1, none⟩ (Ne.symm hr) (.int .i64 g)
          clear kc3 kd2 R2
          obtain ⟨w4, hw4⟩ : ∃ w4, w3.setCell ⟨k, 1, none⟩ (.int .i64 g) = w4 := ⟨_, rfl⟩
          rw [hw4] at K4 T4 R4 ⊢
          clear hw4 K2 T2 K3 T3 hD
          refine region_txt 11 (by kernel_rfl) (by kernel_rfl) ?_; (iterate 11 (first | (apply ObsK.skip (by rfl)) | (apply ObsK.v (by rfl); (intro wo hT; (repeat (first | (intro _ _ k; try have hcv := cv k))); (have kc2 := (K4.below hT).cell); refine Goes.mk ?_; go_simp; first | exact goes_v | exact goes_b (by assumption) | (refine goes_enter ?_; first | fail))) | (apply ObsK.b (by rfl); (intro wo hT; (repeat (first | (intro _ _ k; try have hcv := cv k))); (have kc2 := (K4.below hT).cell); refine Goes.mk ?_; go_simp; first | exact goes_v | exact goes_b (by assumption) | (refine goes_enter ?_; first | fail))))); refine ObsK.nil ?_; intro wz hBz; simp only [finOn, List.drop_succ_cons, List.drop_zero, List.drop_nil]
          go_simp
          have K5 := K4.below hBz
          have T5 := below_then T4 hBz
          have R5 := R4.below hBz
          clear K4 hBz T4 R4
          go_wp2_with fail
          by_cases h5 : h ≤ g
          · rw [decide_eq_true h5]
            refine (may_yes _ _).mono ?_
            rintro e w' ⟨rfl, rfl⟩
            go_wp2_with fail
            by_cases h6 : q = false ∧ (n : Int) < g
            · obtain ⟨rfl, h6⟩ := h6
              have h6' : ¬ g ≤ (n : Int) := by omega
              refine region_txt 14 (by kernel_rfl) (by kernel_rfl) ?_; (iterate 14 (first | (apply ObsK.skip (by rfl)) | (apply ObsK.v (by rfl); (intro wo hT; (repeat (first | (intro _ _ k; try have hcv := cv k))); (have kc2 := (K5.below hT).cell); refine Goes.mk ?_; go_simp; first | exact goes_v | exact goes_b (by assumption) | (refine goes_enter ?_; first | fail))) | (apply ObsK.b (by rfl); (intro wo hT; (repeat (first | (intro _ _ k; try have hcv := cv k))); (have kc2 := (K5.below hT).cell); refine Goes.mk ?_; go_simp; first | exact goes_v | exact goes_b (by assumption) | (refine goes_enter ?_; first | fail))))); refine ObsK.nil ?_; intro wz hBz; simp only [finOn, List.drop_succ_cons, List.drop_zero, List.drop_nil]
              go_simp
              have T6 := below_then T5 hBz
              go_wp2_with fail
              refine (may_no _ _).mono ?_
              rintro e w' ⟨rfl, rfl⟩
              exact ⟨rfl, lenPost_no 3 (by unfold lenE; rw [hh, hg, if_neg (by omega), if_neg (by omega), if_neg (by omega), if_neg (by omega), if_neg (by omega), if_pos ⟨rfl, by omega⟩]) (by omega) T6⟩
            · have hE : lenE q l = 0 := by
                unfold lenE
                rw [hh, hg, if_neg (by omega), if_neg (by omega), if_neg (by omega), if_neg (by omega), if_neg (by omega), if_neg (by rw [hlen]; exact h6)]
              have HE := Lib.hid hE
              clear hE
              have hal : Hid (alOf l = if (n : Int) < g then (n : Int) else g) := by unfold Hid alOf; rw [hg, hlen]
              cases q with
              | true =>
                clear h6
                refine region_txt 14 (by kernel_rfl) (by kernel_rfl) ?_; (iterate 14 (first | (apply ObsK.skip (by rfl)) | (apply ObsK.v (by rfl); (intro wo hT; (repeat (first | (intro _ _ k; try have hcv := cv k))); (have kc2 := (K5.below hT).cell); refine Goes.mk ?_; go_simp; first | exact goes_v | exact goes_b (by assumption) | (refine goes_enter ?_; first | fail))) | (apply ObsK.b (by rfl); (intro wo hT; (repeat (first | (intro _ _ k; try have hcv := cv k))); (have kc2 := (K5.below hT).cell); refine Goes.mk ?_; go_simp; first | exact goes_v | exact goes_b (by assumption) | (refine goes_enter ?_; first | fail))))); refine ObsK.nil ?_; intro wz hBz; simp only [finOn, List.drop_succ_cons, List.drop_zero, List.drop_nil]
                go_simp
                have K6 := K5.below hBz
                have T6 := below_then T5 hBz
                have R6 := R5.below hBz
                clear K5 T5 hBz R5
                go_wp2_with fail
                refine (may_yes _ _).mono ?_
                rintro e w' ⟨rfl, rfl⟩
                go_wp2_with fail
                obtain ⟨m, hm⟩ : ∃ m : Int, (if (n : Int) < g then (n : Int) else g) = m := ⟨_, rfl⟩
                have hmin : ∀ W : World, (Builtin.min_ #[3, 3] 3 #[.int .i64 g, .int .i64 n]).run Try.prog W = .ok (.int .i64 m) W := fun W => by rw [← hm]; rfl
                have HM : Hid (alOf l = m) := hal.out.trans hm
                clear hm hal
                refine region_txt 15 (by kernel_rfl) (by kernel_rfl) ?_; (iterate 15 (first | (apply ObsK.skip (by rfl)) | (apply ObsK.v (by rfl); (intro wo hT; (repeat (first | (intro _ _ k; try have hcv := cv k))); (have kc2 := (K6.below hT).cell); refine Goes.mk ?_; go_simp; first | exact goes_v | exact goes_b (by assumption) | (refine goes_enter ?_; first | fail))) | (apply ObsK.b (by rfl); (intro wo hT; (repeat (first | (intro _ _ k; try have hcv := cv k))); (have kc2 := (K6.below hT).cell); refine Goes.mk ?_; go_simp; first | exact goes_v | exact goes_b (by assumption) | (refine goes_enter ?_; first | fail))))); refine ObsK.nil ?_; intro wz hBz; simp only [finOn, List.drop_succ_cons, List.drop_zero, List.drop_nil]
                go_simp
                have K7 := K6.below hBz
                have T7 := below_then T6 hBz
                have R7 := R6.below hBz
                have kc7 := K7.cell
                clear K6 T6 hBz R6
                go_wp2_with fail
                go_end0
                refine ⟨T7.setCell (p := ⟨k, 1, none⟩) hk _, fun _ => ⟨rfl, ?_, R7.far ⟨k, 1, none⟩ (Ne.symm hr) _⟩, fun hx => absurd HE.out hx⟩
                rw [hh, HM.out]
                exact K7.set_ 1 _
              | false =>
                have h7 : g ≤ (n : Int) := by
                  rcases Int.lt_or_le (n : Int) g with hx | hx
                  · exact absurd ⟨rfl, hx⟩ h6
                  · exact hx
                clear h6
                refine region_txt 14 (by kernel_rfl) (by kernel_rfl) ?_; (iterate 14 (first | (apply ObsK.skip (by rfl)) | (apply ObsK.v (by rfl); (intro wo hT; (repeat (first | (intro _ _ k; try have hcv := cv k))); (have kc2 := (K5.below hT).cell); refine Goes.mk ?_; go_simp; first | exact goes_v | exact goes_b (by assumption) | (refine goes_enter ?_; first | fail))) | (apply ObsK.b (by rfl); (intro wo hT; (repeat (first | (intro _ _ k; try have hcv := cv k))); (have kc2 := (K5.below hT).cell); refine Goes.mk ?_; go_simp; first | exact goes_v | exact goes_b (by assumption) | (refine goes_enter ?_; first | fail))))); refine ObsK.nil ?_; intro wz hBz; simp only [finOn, List.drop_succ_cons, List.drop_zero, List.drop_nil]
                go_simp
                have K6 := K5.below hBz
                have T6 := below_then T5 hBz
                have R6 := R5.below hBz
                clear K5 T5 hBz R5
                go_wp2_with fail
                refine (may_yes _ _).mono ?_
                rintro e w' ⟨rfl, rfl⟩
                go_wp2_with fail
                obtain ⟨m, hm⟩ : ∃ m : Int, (if (n : Int) < g then (n : Int) else g) = m := ⟨_, rfl⟩
                have hmin : ∀ W : World, (Builtin.min_ #[3, 3] 3 #[.int .i64 g, .int .i64 n]).run Try.prog W = .ok (.int .i64 m) W := fun W => by rw [← hm]; rfl
                have HM : Hid (alOf l = m) := hal.out.trans hm
                clear hm hal
                refine region_txt 15 (by kernel_rfl) (by kernel_rfl) ?_; (iterate 15 (first | (apply ObsK.skip (by rfl)) | (apply ObsK.v (by rfl); (intro wo hT; (repeat (first | (intro _ _ k; try have hcv := cv k))); (have kc2 := (K6.below hT).cell); refine Goes.mk ?_; go_simp; first | exact goes_v | exact goes_b (by assumption) | (refine goes_enter ?_; first | fail))) | (apply ObsK.b (by rfl); (intro wo hT; (repeat (first | (intro _ _ k; try have hcv := cv k))); (have kc2 := (K6.below hT).cell); refine Goes.mk ?_; go_simp; first | exact goes_v | exact goes_b (by assumption) | (refine goes_enter ?_; first | fail))))); refine ObsK.nil ?_; intro wz hBz; simp only [finOn, List.drop_succ_cons, List.drop_zero, List.drop_nil]
                go_simp
                have K7 := K6.below hBz
                have T7 := below_then T6 hBz
                have R7 := R6.below hBz
                have kc7 := K7.cell
                clear K6 T6 hBz R6
                go_wp2_with fail
                go_end0
                refine ⟨T7.setCell (p := ⟨k, 1, none⟩) hk _, fun _ => ⟨rfl, ?_, R7.far ⟨k, 1, none⟩ (Ne.symm hr) _⟩, fun hx => absurd HE.out hx⟩
                rw [hh, HM.out]
                exact K7.set_ 1 _
          · rw [decide_eq_false h5]
            refine (may_no _ _).mono ?_
            rintro e w' ⟨rfl, rfl⟩
            exact ⟨rfl, lenPost_no 4 (by unfold lenE; rw [hh, hg, if_neg (by omega), if_neg (by omega), if_neg (by omega), if_neg (by omega), if_pos (by omega)]) (by omega) T5⟩
        · rw [decide_eq_false h4]
          refine (may_no _ _).mono ?_
          rintro e w' ⟨rfl, rfl⟩
          exact ⟨rfl, lenPost_no 3 (by unfold lenE; rw [hh, if_neg (by omega), if_neg (by omega), if_neg (by omega), if_pos (by omega)]) (by omega) T2⟩
      · rw [decide_eq_false h3]
        refine (may_no _ _).mono ?_
        rintro e w' ⟨rfl, rfl⟩
        exact ⟨rfl, lenPost_no 4 (by unfold lenE; rw [hh, if_neg (by omega), if_neg (by omega), if_pos (by omega)]) (by omega) T1⟩
    · rw [show (bt l 0 / 16 == 4) = false from by simpa using h2]
      refine (may_no _ _).mono ?_
      rintro e w' ⟨rfl, rfl⟩
      exact ⟨rfl, lenPost_no 6 (by unfold lenE; rw [if_neg (by omega), if_pos h2]) (by omega) T⟩
  · rw [decide_eq_false h1]
    refine (may_no _ _).mono ?_
    rintro e w' ⟨rfl, rfl⟩
    exact ⟨rfl, lenPost_no 3 (by unfold lenE; rw [if_pos (by omega)]) (by omega) T⟩
end Go.Proofs.Ytogbncpchmnbdaa

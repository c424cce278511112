/- Parts of the proofs of this seat, laid together: Ip1 Ip2 Ip3 IpB IpB2 IpB3 IpL IpR1 IpR2 IpR3 IpR4 IpMath IpJ IpV. -/
import Derived.WalkLawsBesides
import Derived.Defers
import Derived.Recover
import Derived.WideLaws
import Derived.RegionTactic
import Derived.BigRegion
import Derived.Test.YtjjhnjkmoogloaaK5
import Derived.Test.YtjjhnjkmoogloaaK1
import Derived.Test.YtjjhnjkmoogloaaK2
namespace Go.Proofs.Ytjjhnjkmoogloaa
open Go.RowKit
set_option linter.unusedVariables false
set_option linter.unusedSimpArgs false
set_option maxHeartbeats 4000000

theorem str_toList (l : List UInt8) : (str l).toList = l := by rw [ByteArray.toList_eq]; rfl
theorem str_beq (l m : List UInt8) : ((str l).toList == (str m).toList) = (l == m) := by rw [str_toList, str_toList]
theorem bequal_any (A : Option Addr) (n c : Nat) (l : List UInt8) (A2 : Option Addr) (n2 c2 : Nat) (l2 : List UInt8) (w : World) (hb : Bs w A n c l) (hb2 : Bs w A2 n2 c2 l2) :
    Calls Try.prog 63 #[.slice A n c, .slice A2 n2 c2] w fun e w' => e = .returned (.bool (l == l2)) ∧ w = w' := by
  have c1 := cv hb
  have c2' := cv hb2
  have hs := str_beq l l2
  go_enter Try.func63, Try.ntmps63
  go_wp2
  go_ret
  exact ⟨rfl, rfl⟩
/-- What 'may' gives up with. -/
def fault (e : Int) : Value := .iface 115 (.agg #[.int .i64 e])
theorem may_yes (e : Int) (w : World) : Calls Try.prog 89 #[.bool true, .int .i64 e] w fun r w' => r = .returned (.tuple #[]) ∧ w = w' := by
  go_enter Try.func89, Try.ntmps89
  go_wp2
  go_end0
  exact ⟨rfl, rfl⟩
theorem may_no (e : Int) (w : World) : Calls Try.prog 89 #[.bool false, .int .i64 e] w fun r w' => r = .panicked [{ v := fault e, recovered := false }] ∧ w = w' := by
  go_enter Try.func89, Try.ntmps89
  go_wp2
  exact ⟨rfl, rfl, rfl⟩
structure LenPost (w0 : World) (k r : Nat) (cs : Array Value) (tr : TypeId) (A : Option Addr) (n c : Nat) (l : List UInt8) (q : Bool) (e : Ending) (w' : World) : Prop where
  bel : Below w0.heap.size w0 w'
  ok : lenE q l = 0 → e = .returned (.tuple #[]) ∧ Blk w' k #[.int .i64 (hdOf l), .int .i64 (alOf l), .slice A n c] 120 ∧ Blk w' r cs tr
  no : lenE q l ≠ 0 → e = .panicked [{ v := fault (lenE q l), recovered := false }]
theorem lenPost_no {w0 : World} {k r : Nat} {cs : Array Value} {tr : TypeId} {A : Option Addr} {n c : Nat} {l : List UInt8} {q : Bool} {w' : World} (x : Int) (hE : lenE q l = x) (hx : x ≠ 0) (hB : Below w0.heap.size w0 w') :
    LenPost w0 k r cs tr A n c l q (.panicked [{ v := fault x, recovered := false }]) w' := ⟨hB, fun h => absurd (hE.symm.trans h) hx, fun _ => by rw [hE]⟩
theorem lengths_any (w0 : World) (k : Nat) (A : Option Addr) (n c : Nat) (l : List UInt8) (q : Bool) (w : World) (hb : Bs w0 A n c l) (T : Below w0.heap.size w0 w) (hk : w0.heap.size ≤ k) (K : Blk w k #[.int .i64 0, .int .i64 0, .slice A n c] 120) (r : Nat) (cs : Array Value) (tr : TypeId) (hr : r ≠ k) (R : Blk w r cs tr) :
    Calls Try.prog 88 #[.pointer (some ⟨k, 0, none⟩), .bool q] w (LenPost w0 k r cs tr A n c l q) := by
  have hlen := hb.len
  have hmax := hb.max
  have kc := K.cell
  go_enter Try.func88, Try.ntmps88
  go_wp2_with fail
  by_cases h1 : (20 : Int) ≤ n
  · rw [decide_eq_true h1]
    obtain ⟨b, off, rfl, hc⟩ := (hb.below T).rd (by omega)
    have c0 := hc 0 (by omega)
    rw [Nat.add_zero] at c0
    have b0 := bt_lo l 0
    have b0' := bt_hi l 0
    have hand := and_u8_15 b0 b0'
    have hn0 : (0 : Int) < n := by omega
    clear hc
    refine (may_yes _ _).mono ?_
    rintro e w' ⟨rfl, rfl⟩
    go_wp2_with fail
    by_cases h2 : bt l 0 / 16 = 4
    · rw [show (bt l 0 / 16 == 4) = true from by simpa using h2]
      refine (may_yes _ _).mono ?_
      rintro e w' ⟨rfl, rfl⟩
      have K1 : Blk (w.setCell ⟨k, 0, none⟩ (.int .i64 (4 * (bt l 0 % 16)))) k #[.int .i64 (4 * (bt l 0 % 16)), .int .i64 0, .slice (some ⟨b, off, none⟩) n c] 120 := K.set_ 0 _
      have T1 := T.setCell (p := ⟨k, 0, none⟩) hk (.int .i64 (4 * (bt l 0 % 16)))
      have R1 := R.far ⟨k, 0, none⟩ (Ne.symm hr) (.int .i64 (4 * (bt l 0 % 16)))
      have kc1 := K1.cell
      go_wp2_with fail
      clear kc hand c0
      obtain ⟨w1, hw1⟩ : ∃ w1, w.setCell ⟨k, 0, none⟩ (.int .i64 (4 * (bt l 0 % 16))) = w1 := ⟨_, rfl⟩
      rw [hw1] at K1 T1 kc1 R1 ⊢
      clear hw1 T K R
      obtain ⟨h, hh⟩ : ∃ h, hdOf l = h := ⟨_, rfl⟩
      have hh' : 4 * (bt l 0 % 16) = h := hh
      rw [hh'] at K1 kc1 ⊢
      have h0 : 0 ≤ h := by omega
      have h60 : h ≤ 60 := by omega
      by_cases h3 : (20 : Int) ≤ h
      · rw [decide_eq_true h3]
        refine (may_yes _ _).mono ?_
        rintro e w' ⟨rfl, rfl⟩
        go_wp2_with fail
        refine region_txt 11 (by kernel_rfl) (by kernel_rfl) ?_; (iterate 11 (first | (apply ObsK.skip (by rfl)) | (apply ObsK.v (by rfl); (intro wo hT; (repeat (first | (intro _ _ k; try have hcv := cv k))); (have kc2 := (K1.below hT).cell); refine Goes.mk ?_; go_simp; first | exact goes_v | exact goes_b (by assumption) | (refine goes_enter ?_; first | fail))) | (apply ObsK.b (by rfl); (intro wo hT; (repeat (first | (intro _ _ k; try have hcv := cv k))); (have kc2 := (K1.below hT).cell); refine Goes.mk ?_; go_simp; first | exact goes_v | exact goes_b (by assumption) | (refine goes_enter ?_; first | fail))))); refine ObsK.nil ?_; intro wz hBz; simp only [finOn, List.drop_succ_cons, List.drop_zero, List.drop_nil]
        go_simp
        have K2 := K1.below hBz
        have T2 := below_then T1 hBz
        have R2 := R1.below hBz
        clear kc1 K1 hBz T1 R1
        go_wp2_with fail
        obtain ⟨g, hg⟩ : ∃ g, get16 l 2 = g := ⟨_, rfl⟩
        have g0 : 0 ≤ g := by rw [← hg]; exact get16_lo l 2
        have g1 : g ≤ 65535 := by rw [← hg]; exact get16_hi l 2
        by_cases h4 : h ≤ (n : Int)
        · rw [decide_eq_true h4]
          refine (may_yes _ _).mono ?_
          rintro e w' ⟨rfl, rfl⟩
          have kd2 := K2.cell
          go_wp2_with (go_at_call 38; ((with_reducible refine (get16_any (some ⟨b, off, none⟩) n c l 2 wz (hb.below T2)).mono ?_); rintro e w3 ⟨rfl, hD⟩); have K3 := K2.below hD.bel; have T3 := below_then T2 hD.bel; have kc3 := K3.cell)
          have K4 : Blk (w3.setCell ⟨k, 1, none⟩ (.int .i64 g)) k #[.int .i64 h, .int .i64 g, .slice (some ⟨b, off, none⟩) n c] 120 := K3.set_ 1 _
          have T4 := T3.setCell (p := ⟨k, 1, none⟩) hk (.int .i64 g)
          have R4 := (R2.below hD.bel).far ⟨k, 1, none⟩ (Ne.symm hr) (.int .i64 g)
          clear kc3 kd2 R2
          obtain ⟨w4, hw4⟩ : ∃ w4, w3.setCell ⟨k, 1, none⟩ (.int .i64 g) = w4 := ⟨_, rfl⟩
          rw [hw4] at K4 T4 R4 ⊢
          clear hw4 K2 T2 K3 T3 hD
          refine region_txt 11 (by kernel_rfl) (by kernel_rfl) ?_; (iterate 11 (first | (apply ObsK.skip (by rfl)) | (apply ObsK.v (by rfl); (intro wo hT; (repeat (first | (intro _ _ k; try have hcv := cv k))); (have kc2 := (K4.below hT).cell); refine Goes.mk ?_; go_simp; first | exact goes_v | exact goes_b (by assumption) | (refine goes_enter ?_; first | fail))) | (apply ObsK.b (by rfl); (intro wo hT; (repeat (first | (intro _ _ k; try have hcv := cv k))); (have kc2 := (K4.below hT).cell); refine Goes.mk ?_; go_simp; first | exact goes_v | exact goes_b (by assumption) | (refine goes_enter ?_; first | fail))))); refine ObsK.nil ?_; intro wz hBz; simp only [finOn, List.drop_succ_cons, List.drop_zero, List.drop_nil]
          go_simp
          have K5 := K4.below hBz
          have T5 := below_then T4 hBz
          have R5 := R4.below hBz
          clear K4 hBz T4 R4
          go_wp2_with fail
          by_cases h5 : h ≤ g
          · rw [decide_eq_true h5]
            refine (may_yes _ _).mono ?_
            rintro e w' ⟨rfl, rfl⟩
            go_wp2_with fail
            by_cases h6 : q = false ∧ (n : Int) < g
            · obtain ⟨rfl, h6⟩ := h6
              have h6' : ¬ g ≤ (n : Int) := by omega
              refine region_txt 14 (by kernel_rfl) (by kernel_rfl) ?_; (iterate 14 (first | (apply ObsK.skip (by rfl)) | (apply ObsK.v (by rfl); (intro wo hT; (repeat (first | (intro _ _ k; try have hcv := cv k))); (have kc2 := (K5.below hT).cell); refine Goes.mk ?_; go_simp; first | exact goes_v | exact goes_b (by assumption) | (refine goes_enter ?_; first | fail))) | (apply ObsK.b (by rfl); (intro wo hT; (repeat (first | (intro _ _ k; try have hcv := cv k))); (have kc2 := (K5.below hT).cell); refine Goes.mk ?_; go_simp; first | exact goes_v | exact goes_b (by assumption) | (refine goes_enter ?_; first | fail))))); refine ObsK.nil ?_; intro wz hBz; simp only [finOn, List.drop_succ_cons, List.drop_zero, List.drop_nil]
              go_simp
              have T6 := below_then T5 hBz
              go_wp2_with fail
              refine (may_no _ _).mono ?_
              rintro e w' ⟨rfl, rfl⟩
              exact ⟨rfl, lenPost_no 3 (by unfold lenE; rw [hh, hg, if_neg (by omega), if_neg (by omega), if_neg (by omega), if_neg (by omega), if_neg (by omega), if_pos ⟨rfl, by omega⟩]) (by omega) T6⟩
            · have hE : lenE q l = 0 := by
                unfold lenE
                rw [hh, hg, if_neg (by omega), if_neg (by omega), if_neg (by omega), if_neg (by omega), if_neg (by omega), if_neg (by rw [hlen]; exact h6)]
              have HE := Lib.hid hE
              clear hE
              have hal : Hid (alOf l = if (n : Int) < g then (n : Int) else g) := by unfold Hid alOf; rw [hg, hlen]
              cases q with
              | true =>
                clear h6
                refine region_txt 14 (by kernel_rfl) (by kernel_rfl) ?_; (iterate 14 (first | (apply ObsK.skip (by rfl)) | (apply ObsK.v (by rfl); (intro wo hT; (repeat (first | (intro _ _ k; try have hcv := cv k))); (have kc2 := (K5.below hT).cell); refine Goes.mk ?_; go_simp; first | exact goes_v | exact goes_b (by assumption) | (refine goes_enter ?_; first | fail))) | (apply ObsK.b (by rfl); (intro wo hT; (repeat (first | (intro _ _ k; try have hcv := cv k))); (have kc2 := (K5.below hT).cell); refine Goes.mk ?_; go_simp; first | exact goes_v | exact goes_b (by assumption) | (refine goes_enter ?_; first | fail))))); refine ObsK.nil ?_; intro wz hBz; simp only [finOn, List.drop_succ_cons, List.drop_zero, List.drop_nil]
                go_simp
                have K6 := K5.below hBz
                have T6 := below_then T5 hBz
                have R6 := R5.below hBz
                clear K5 T5 hBz R5
                go_wp2_with fail
                refine (may_yes _ _).mono ?_
                rintro e w' ⟨rfl, rfl⟩
                go_wp2_with fail
                obtain ⟨m, hm⟩ : ∃ m : Int, (if (n : Int) < g then (n : Int) else g) = m := ⟨_, rfl⟩
                have hmin : ∀ W : World, (Builtin.min_ #[3, 3] 3 #[.int .i64 g, .int .i64 n]).run Try.prog W = .ok (.int .i64 m) W := fun W => by rw [← hm]; rfl
                have HM : Hid (alOf l = m) := hal.out.trans hm
                clear hm hal
                refine region_txt 15 (by kernel_rfl) (by kernel_rfl) ?_; (iterate 15 (first | (apply ObsK.skip (by rfl)) | (apply ObsK.v (by rfl); (intro wo hT; (repeat (first | (intro _ _ k; try have hcv := cv k))); (have kc2 := (K6.below hT).cell); refine Goes.mk ?_; go_simp; first | exact goes_v | exact goes_b (by assumption) | (refine goes_enter ?_; first | fail))) | (apply ObsK.b (by rfl); (intro wo hT; (repeat (first | (intro _ _ k; try have hcv := cv k))); (have kc2 := (K6.below hT).cell); refine Goes.mk ?_; go_simp; first | exact goes_v | exact goes_b (by assumption) | (refine goes_enter ?_; first | fail))))); refine ObsK.nil ?_; intro wz hBz; simp only [finOn, List.drop_succ_cons, List.drop_zero, List.drop_nil]
                go_simp
                have K7 := K6.below hBz
                have T7 := below_then T6 hBz
                have R7 := R6.below hBz
                have kc7 := K7.cell
                clear K6 T6 hBz R6
                go_wp2_with fail
                go_end0
                refine ⟨T7.setCell (p := ⟨k, 1, none⟩) hk _, fun _ => ⟨rfl, ?_, R7.far ⟨k, 1, none⟩ (Ne.symm hr) _⟩, fun hx => absurd HE.out hx⟩
                rw [hh, HM.out]
                exact K7.set_ 1 _
              | false =>
                have h7 : g ≤ (n : Int) := by
                  rcases Int.lt_or_le (n : Int) g with hx | hx
                  · exact absurd ⟨rfl, hx⟩ h6
                  · exact hx
                clear h6
                refine region_txt 14 (by kernel_rfl) (by kernel_rfl) ?_; (iterate 14 (first | (apply ObsK.skip (by rfl)) | (apply ObsK.v (by rfl); (intro wo hT; (repeat (first | (intro _ _ k; try have hcv := cv k))); (have kc2 := (K5.below hT).cell); refine Goes.mk ?_; go_simp; first | exact goes_v | exact goes_b (by assumption) | (refine goes_enter ?_; first | fail))) | (apply ObsK.b (by rfl); (intro wo hT; (repeat (first | (intro _ _ k; try have hcv := cv k))); (have kc2 := (K5.below hT).cell); refine Goes.mk ?_; go_simp; first | exact goes_v | exact goes_b (by assumption) | (refine goes_enter ?_; first | fail))))); refine ObsK.nil ?_; intro wz hBz; simp only [finOn, List.drop_succ_cons, List.drop_zero, List.drop_nil]
                go_simp
                have K6 := K5.below hBz
                have T6 := below_then T5 hBz
                have R6 := R5.below hBz
                clear K5 T5 hBz R5
                go_wp2_with fail
                refine (may_yes _ _).mono ?_
                rintro e w' ⟨rfl, rfl⟩
                go_wp2_with fail
                obtain ⟨m, hm⟩ : ∃ m : Int, (if (n : Int) < g then (n : Int) else g) = m := ⟨_, rfl⟩
                have hmin : ∀ W : World, (Builtin.min_ #[3, 3] 3 #[.int .i64 g, .int .i64 n]).run Try.prog W = .ok (.int .i64 m) W := fun W => by rw [← hm]; rfl
                have HM : Hid (alOf l = m) := hal.out.trans hm
                clear hm hal
                refine region_txt 15 (by kernel_rfl) (by kernel_rfl) ?_; (iterate 15 (first | (apply ObsK.skip (by rfl)) | (apply ObsK.v (by rfl); (intro wo hT; (repeat (first | (intro _ _ k; try have hcv := cv k))); (have kc2 := (K6.below hT).cell); refine Goes.mk ?_; go_simp; first | exact goes_v | exact goes_b (by assumption) | (refine goes_enter ?_; first | fail))) | (apply ObsK.b (by rfl); (intro wo hT; (repeat (first | (intro _ _ k; try have hcv := cv k))); (have kc2 := (K6.below hT).cell); refine Goes.mk ?_; go_simp; first | exact goes_v | exact goes_b (by assumption) | (refine goes_enter ?_; first | fail))))); refine ObsK.nil ?_; intro wz hBz; simp only [finOn, List.drop_succ_cons, List.drop_zero, List.drop_nil]
                go_simp
                have K7 := K6.below hBz
                have T7 := below_then T6 hBz
                have R7 := R6.below hBz
                have kc7 := K7.cell
                clear K6 T6 hBz R6
                go_wp2_with fail
                go_end0
                refine ⟨T7.setCell (p := ⟨k, 1, none⟩) hk _, fun _ => ⟨rfl, ?_, R7.far ⟨k, 1, none⟩ (Ne.symm hr) _⟩, fun hx => absurd HE.out hx⟩
                rw [hh, HM.out]
                exact K7.set_ 1 _
          · rw [decide_eq_false h5]
            refine (may_no _ _).mono ?_
            rintro e w' ⟨rfl, rfl⟩
            exact ⟨rfl, lenPost_no 4 (by unfold lenE; rw [hh, hg, if_neg (by omega), if_neg (by omega), if_neg (by omega), if_neg (by omega), if_pos (by omega)]) (by omega) T5⟩
        · rw [decide_eq_false h4]
          refine (may_no _ _).mono ?_
          rintro e w' ⟨rfl, rfl⟩
          exact ⟨rfl, lenPost_no 3 (by unfold lenE; rw [hh, if_neg (by omega), if_neg (by omega), if_neg (by omega), if_pos (by omega)]) (by omega) T2⟩
      · rw [decide_eq_false h3]
        refine (may_no _ _).mono ?_
        rintro e w' ⟨rfl, rfl⟩
        exact ⟨rfl, lenPost_no 4 (by unfold lenE; rw [hh, if_neg (by omega), if_neg (by omega), if_pos (by omega)]) (by omega) T1⟩
    · rw [show (bt l 0 / 16 == 4) = false from by simpa using h2]
      refine (may_no _ _).mono ?_
      rintro e w' ⟨rfl, rfl⟩
      exact ⟨rfl, lenPost_no 6 (by unfold lenE; rw [if_neg (by omega), if_pos h2]) (by omega) T⟩
  · rw [decide_eq_false h1]
    refine (may_no _ _).mono ?_
    rintro e w' ⟨rfl, rfl⟩
    exact ⟨rfl, lenPost_no 3 (by unfold lenE; rw [if_pos (by omega)]) (by omega) T⟩
end Go.Proofs.Ytjjhnjkmoogloaa

namespace Go.Proofs.Ytjjhnjkmoogloaa
open Go.RowKit
set_option linter.unusedVariables false
set_option linter.unusedSimpArgs false
set_option maxHeartbeats 8000000
set_option maxRecDepth 100000

structure PkPost (w0 : World) (q : Bool) (l : List UInt8) (e : Ending) (w' : World) : Prop where
  bel : Below w0.heap.size w0 w'
  ok : rdE q l = 0 → ∃ A1 n1 c1 A2 n2 c2, e = .returned (.agg #[.int .u8 (rdP l).tos, .int .u16 (rdP l).id, .bool (rdP l).keep, .int .u8 (rdP l).ttl, .int .u8 (rdP l).proto, .int .u32 (rdP l).src, .int .u32 (rdP l).dst, .slice A1 n1 c1, .slice A2 n2 c2]) ∧ Bs w' A1 n1 c1 (rdP l).opt ∧ Bs w' A2 n2 c2 (rdP l).dat ∧ (∀ a, A1 = some a → w0.heap.size ≤ a.block) ∧ (∀ a, A2 = some a → w0.heap.size ≤ a.block)
  no : rdE q l ≠ 0 → e = .panicked [{ v := fault (rdE q l), recovered := false }]
theorem pkPost_no {w0 : World} {l : List UInt8} {q : Bool} {w' : World} (x : Int) (hE : rdE q l = x) (hx : x ≠ 0) (hB : Below w0.heap.size w0 w') :
    PkPost w0 q l (.panicked [{ v := fault x, recovered := false }]) w' := ⟨hB, fun h => absurd (hE.symm.trans h) hx, fun _ => by rw [hE]⟩
theorem packet_any (w0 : World) (k : Nat) (A : Option Addr) (n c : Nat) (l : List UInt8) (q : Bool) (w : World) (hb : Bs w0 A n c l) (T : Below w0.heap.size w0 w) (hk : w0.heap.size ≤ k) (K : Blk w k #[.int .i64 0, .int .i64 0, .slice A n c] 120) (le : Int) (hle : le = if q then 8 else 0) :
    Calls Try.prog 83 #[.pointer (some ⟨k, 0, none⟩), .bool q, .int .i64 le] w (PkPost w0 q l) := by
  have hlen := hb.len
  have hmax := hb.max
  have hcap := hb.cap
  obtain ⟨i8, hi8, _, hs8, _⟩ := info_parts info_u8
  have HLE := Lib.hid hle
  have le0 : 0 ≤ le := by rw [hle]; split <;> omega
  have le8 : le ≤ 8 := by rw [hle]; split <;> omega
  clear hle
  go_enter Try.func83, Try.ntmps83
  go_wp2_with fail
  have hkl := K.lt
  have T1 : Below w0.heap.size w0 (w.alloc (.cells #[.int .u8 0, .int .u16 0, .bool false, .int .u8 0, .int .u8 0, .int .u32 0, .int .u32 0, .slice none 0 0, .slice none 0 0] 26)) := T.alloc (by have := T.size; omega) _
  have R1 := blk_new w #[.int .u8 0, .int .u16 0, .bool false, .int .u8 0, .int .u8 0, .int .u32 0, .int .u32 0, .slice none 0 0, .slice none 0 0] 26 _ rfl
  refine (lengths_any w0 k A n c l q _ hb T1 hk (K.alloc _) w.heap.size _ _ (by omega) R1).mono ?_
  intro e w1 hP
  by_cases hE0 : lenE q l = 0
  · obtain ⟨rfl, K1, R2⟩ := hP.ok hE0
    obtain ⟨f1, f2, f3, f4, f5, f6, f7, f8, f9⟩ := len_facts hE0
    have T2 := hP.bel
    clear hP T1 R1
    obtain ⟨b, off, rfl⟩ := hb.some_ (by omega)
    obtain ⟨h, hh⟩ : ∃ h, hdOf l = h := ⟨_, rfl⟩
    obtain ⟨m, hm⟩ : ∃ m, alOf l = m := ⟨_, rfl⟩
    rw [hh] at f3 f4 f5 f7 f8 K1
    rw [hm] at f5 f6 K1
    rw [hlen] at f1 f4 f6
    clear f8 f9 f2
    have hcutA : ∀ W, (Instr.slice 24 (.slice (some ⟨b, off, none⟩) n c) none (some (.int .i64 h)) none).run Try.prog W = _ := fun W => cut_h Try.underlying24 hi8 hs8 (some ⟨b, off, none⟩) n c .i64 h (by omega) (by omega) W
    obtain ⟨A', n', c', eA, en, ec, hbA⟩ := hb.cutE (lo := 0) (hi := h.toNat) (by omega) (by omega)
    simp only [eA, en, ec] at hcutA
    clear eA en ec
    simp only [List.drop_zero] at hbA
    go_wp2_with fail
    refine region_txt 11 (by kernel_rfl) (by kernel_rfl) ?_; (iterate 11 (first | (apply ObsK.skip (by rfl)) | (apply ObsK.v (by rfl); (intro wo hT; (repeat (first | (intro _ _ k; try have hcv := cv k))); (have kc2 := (K1.below hT).cell); refine Goes.mk ?_; go_simp; first | exact goes_v | exact goes_b (by assumption) | (refine goes_enter ?_; first | (go_at_call 67; ((with_reducible refine (good_any A' n' c' (l.take h.toNat) wo ((hbA.below T2).below hT)).mono ?_); rintro e w2 ⟨rfl, hB2⟩); exact ret_v hB2)))) | (apply ObsK.b (by rfl); (intro wo hT; (repeat (first | (intro _ _ k; try have hcv := cv k))); (have kc2 := (K1.below hT).cell); refine Goes.mk ?_; go_simp; first | exact goes_v | exact goes_b (by assumption) | (refine goes_enter ?_; first | (go_at_call 67; ((with_reducible refine (good_any A' n' c' (l.take h.toNat) wo ((hbA.below T2).below hT)).mono ?_); rintro e w2 ⟨rfl, hB2⟩); exact ret_v hB2)))))); refine ObsK.nil ?_; intro wz hBz; simp only [finOn, List.drop_succ_cons, List.drop_zero, List.drop_nil]
    go_simp
    have K3 := K1.below hBz
    have R3 := R2.below hBz
    have T3 := below_then T2 hBz
    clear hBz K1 R2 T2
    go_wp2_with fail
    obtain ⟨s, hs⟩ : ∃ s, csum (l.take h.toNat) = s := ⟨_, rfl⟩
    rw [hs]
    by_cases h5 : s = 0
    · rw [show (s == 0) = true from by simpa using h5]
      refine (may_yes _ _).mono ?_
      rintro e w' ⟨rfl, rfl⟩
      obtain ⟨f, hf⟩ : ∃ f, get16 l 6 = f := ⟨_, rfl⟩
      have g0 : 0 ≤ f := by rw [← hf]; exact get16_lo l 6
      have g1 : f ≤ 65535 := by rw [← hf]; exact get16_hi l 6
      have ha1 := and_u16_low g0 g1
      have ha2 := and_u16_top g0 g1
      have kc3 := K3.cell
      go_wp2_with (go_at_call 38; ((with_reducible refine (get16_any (some ⟨b, off, none⟩) n c l 6 _ (hb.below T3)).mono ?_); rintro e w4 ⟨rfl, hD⟩); have K4 := K3.below hD.bel; have T4 := below_then T3 hD.bel; have R4 := R3.below hD.bel)
      clear kc3
      by_cases h6 : f % 16384 = 0
      · rw [show (f % 16384 == 0) = true from by simpa using h6]
        refine (may_yes _ _).mono ?_
        rintro e w' ⟨rfl, rfl⟩
        go_wp2_with fail
        by_cases h7 : 32768 ≤ f
        · rw [show (f / 32768 * 32768 == 0) = false from by simp; omega]
          refine (may_no _ _).mono ?_
          rintro e w' ⟨rfl, rfl⟩
          exact ⟨rfl, pkPost_no 4 (by unfold rdE; rw [if_neg (by omega), hh, if_neg (by rw [hs]; omega), hf, if_neg (by omega), if_pos h7]) (by omega) T4⟩
        · rw [show (f / 32768 * 32768 == 0) = true from by simp; omega]
          refine (may_yes _ _).mono ?_
          rintro e w' ⟨rfl, rfl⟩
          go_wp2_with fail
          refine region_txt 13 (by kernel_rfl) (by kernel_rfl) ?_; (iterate 13 (first | (apply ObsK.skip (by rfl)) | (apply ObsK.v (by rfl); (intro wo hT; (repeat (first | (intro _ _ k; try have hcv := cv k))); (have kc2 := (K4.below hT).cell); refine Goes.mk ?_; go_simp; first | exact goes_v | exact goes_b (by assumption) | (refine goes_enter ?_; first | fail))) | (apply ObsK.b (by rfl); (intro wo hT; (repeat (first | (intro _ _ k; try have hcv := cv k))); (have kc2 := (K4.below hT).cell); refine Goes.mk ?_; go_simp; first | exact goes_v | exact goes_b (by assumption) | (refine goes_enter ?_; first | fail))))); refine ObsK.nil ?_; intro wz hBz; simp only [finOn, List.drop_succ_cons, List.drop_zero, List.drop_nil]
          go_simp
          have K5 := K4.below hBz
          have R5 := R4.below hBz
          have T5 := below_then T4 hBz
          clear hBz K4 R4 T4 hD
          go_wp2_with fail
          by_cases h8 : le ≤ m - h
          · rw [decide_eq_true h8]
            refine (may_yes _ _).mono ?_
            rintro e w' ⟨rfl, rfl⟩
            have hE : rdE q l = 0 := by
              unfold rdE
              rw [if_neg (by omega), hh, if_neg (by rw [hs]; omega), hf, if_neg (by omega), if_neg (by omega), hm]
              rw [if_neg]
              rintro ⟨rfl, hx⟩
              have := HLE.out
              simp at this
              omega
            have HE := Lib.hid hE
            clear hE
            have hcutB : ∀ W, (Instr.slice 24 (.slice (some ⟨b, off, none⟩) n c) (some (.int .i64 20)) (some (.int .i64 h)) none).run Try.prog W = _ := fun W => cut_lh Try.underlying24 hi8 hs8 (some ⟨b, off, none⟩) n c .i64 .i64 20 h (by omega) (by omega) (by omega) W
            obtain ⟨A2, n2, c2, eA, en, ec, hbB⟩ := hb.cutE (lo := 20) (hi := h.toNat) (by omega) (by omega)
            simp only [show (20 : Int).toNat = 20 from rfl, eA, en, ec] at hcutB
            clear eA en ec
            have hcutC : ∀ W, (Instr.slice 24 (.slice (some ⟨b, off, none⟩) n c) (some (.int .i64 h)) (some (.int .i64 m)) none).run Try.prog W = _ := fun W => cut_lh Try.underlying24 hi8 hs8 (some ⟨b, off, none⟩) n c .i64 .i64 h m (by omega) (by omega) (by omega) W
            obtain ⟨A3, n3, c3, eA, en, ec, hbC⟩ := hb.cutE (lo := h.toNat) (hi := m.toNat) (by omega) (by omega)
            simp only [eA, en, ec] at hcutC
            clear eA en ec
            have HF := Lib.hid hf
            have HH := Lib.hid hh
            have HM := Lib.hid hm
            have x1 : (1 : Int) < n := by omega
            have x8 : (8 : Int) < n := by omega
            have x9 : (9 : Int) < n := by omega
            clear hf hh hm ha1 ha2 hs h5 h6 h7 hcutA
            go_wp2_with fail
            refine region_txt 62 (by kernel_rfl) (by kernel_rfl) ?_; (iterate 62 (first | (apply ObsK.skip (by rfl)) | (apply ObsK.v (by rfl); (intro wo hT; (repeat (first | (intro v hv; ((skip))) | (intro _ _ k; try have hcv := cv k))); (have kc2 := (K5.below hT).cell; have bo := (hb.below T5).below hT; have b1 := bo.at_ (j := 1) (by omega); have b8 := bo.at_ (j := 8) (by omega); have b9 := bo.at_ (j := 9) (by omega); have rl := (R5.below hT).lt); refine Goes.mk ?_; go_simp; first | exact goes_v | exact goes_b (by assumption) | (refine goes_enter ?_; first | (go_at_call 38; ((with_reducible refine (get16_any (some ⟨b, off, none⟩) n c l 4 wo bo).mono ?_); rintro e w2 ⟨rfl, hD2⟩); exact ret_v hD2.bel) | (go_at_call 39; ((with_reducible refine (get32_any (some ⟨b, off, none⟩) n c l 12 wo bo).mono ?_); rintro e w2 ⟨rfl, hD2⟩); exact ret_v hD2.bel) | (go_at_call 39; ((with_reducible refine (get32_any (some ⟨b, off, none⟩) n c l 16 wo bo).mono ?_); rintro e w2 ⟨rfl, hD2⟩); exact ret_v hD2.bel) | (go_at_call 40; ((with_reducible refine (clone_any A2 n2 c2 _ wo ((hbB.below T5).below hT)).mono ?_); rintro e w2 ⟨A9, c9, rfl, ho9, hB9⟩); exact ret_p (own_isF ho9 rl) hB9) | (go_at_call 40; ((with_reducible refine (clone_any A3 n3 c3 _ wo ((hbC.below T5).below hT)).mono ?_); rintro e w2 ⟨A9, c9, rfl, ho9, hB9⟩); exact ret_p (own_isF ho9 rl) hB9)))) | (apply ObsK.b (by rfl); (intro wo hT; (repeat (first | (intro v hv; ((skip))) | (intro _ _ k; try have hcv := cv k))); (have kc2 := (K5.below hT).cell; have bo := (hb.below T5).below hT; have b1 := bo.at_ (j := 1) (by omega); have b8 := bo.at_ (j := 8) (by omega); have b9 := bo.at_ (j := 9) (by omega); have rl := (R5.below hT).lt); refine Goes.mk ?_; go_simp; first | exact goes_v | exact goes_b (by assumption) | (refine goes_enter ?_; first | (go_at_call 38; ((with_reducible refine (get16_any (some ⟨b, off, none⟩) n c l 4 wo bo).mono ?_); rintro e w2 ⟨rfl, hD2⟩); exact ret_v hD2.bel) | (go_at_call 39; ((with_reducible refine (get32_any (some ⟨b, off, none⟩) n c l 12 wo bo).mono ?_); rintro e w2 ⟨rfl, hD2⟩); exact ret_v hD2.bel) | (go_at_call 39; ((with_reducible refine (get32_any (some ⟨b, off, none⟩) n c l 16 wo bo).mono ?_); rintro e w2 ⟨rfl, hD2⟩); exact ret_v hD2.bel) | (go_at_call 40; ((with_reducible refine (clone_any A2 n2 c2 _ wo ((hbB.below T5).below hT)).mono ?_); rintro e w2 ⟨A9, c9, rfl, ho9, hB9⟩); exact ret_p (own_isF ho9 rl) hB9) | (go_at_call 40; ((with_reducible refine (clone_any A3 n3 c3 _ wo ((hbC.below T5).below hT)).mono ?_); rintro e w2 ⟨A9, c9, rfl, ho9, hB9⟩); exact ret_p (own_isF ho9 rl) hB9)))) | (apply ObsK.p (q := isF w.heap.size _ _) (by rfl) st_isF; (intro wo hT; (repeat (first | (intro v hv; ((skip))) | (intro _ _ k; try have hcv := cv k))); (have kc2 := (K5.below hT).cell; have bo := (hb.below T5).below hT; have b1 := bo.at_ (j := 1) (by omega); have b8 := bo.at_ (j := 8) (by omega); have b9 := bo.at_ (j := 9) (by omega); have rl := (R5.below hT).lt); refine Goes.mk ?_; go_simp; first | exact goes_v | exact goes_b (by assumption) | (refine goes_enter ?_; first | (go_at_call 38; ((with_reducible refine (get16_any (some ⟨b, off, none⟩) n c l 4 wo bo).mono ?_); rintro e w2 ⟨rfl, hD2⟩); exact ret_v hD2.bel) | (go_at_call 39; ((with_reducible refine (get32_any (some ⟨b, off, none⟩) n c l 12 wo bo).mono ?_); rintro e w2 ⟨rfl, hD2⟩); exact ret_v hD2.bel) | (go_at_call 39; ((with_reducible refine (get32_any (some ⟨b, off, none⟩) n c l 16 wo bo).mono ?_); rintro e w2 ⟨rfl, hD2⟩); exact ret_v hD2.bel) | (go_at_call 40; ((with_reducible refine (clone_any A2 n2 c2 _ wo ((hbB.below T5).below hT)).mono ?_); rintro e w2 ⟨A9, c9, rfl, ho9, hB9⟩); exact ret_p (own_isF ho9 rl) hB9) | (go_at_call 40; ((with_reducible refine (clone_any A3 n3 c3 _ wo ((hbC.below T5).below hT)).mono ?_); rintro e w2 ⟨A9, c9, rfl, ho9, hB9⟩); exact ret_p (own_isF ho9 rl) hB9)))))); refine ObsK.nil ?_; intro wz hBz; simp only [finOn, List.drop_succ_cons, List.drop_zero, List.drop_nil]
            intro v9 hv9 v10 hv10
            obtain ⟨A9, c9, rfl, k9, a9⟩ := hv9
            obtain ⟨A10, c10, rfl, k10, a10⟩ := hv10
            go_simp
            have R6 := R5.below hBz
            have rc := R6.cell
            have T6 := below_then T5 hBz
            have hwr : w0.heap.size ≤ w.heap.size := T.size
            go_wp2_with fail
            obtain ⟨wf, hwf, S⟩ := store9 R6 (.int .u8 (bt l 1)) (.int .u16 (get16 l 4)) (.bool (f != 0)) (.int .u8 (bt l 8)) (.int .u8 (bt l 9)) (.int .u32 (get32 l 12)) (.int .u32 (get32 l 16)) (.slice A10 n2 c10) (.slice A9 n3 c9)
            rw [hwf]
            have TF := S.bel T6 hwr
            have k9' := S.bs k9 (gt_ne a9)
            have k10' := S.bs k10 (gt_ne a10)
            have kr := S.blk.cell
            clear hwf S R6 rc T6 k9 k10
            have e1 : f = get16 l 6 := HF.out.symm
            have e2 : (rdP l).opt = List.drop 20 (List.take h.toNat l) := by rw [← HH.out]; rfl
            have e3 : (rdP l).dat = List.drop h.toNat (List.take m.toNat l) := by rw [← HH.out, ← HM.out]; rfl
            refine bodyPost_ret (v := .agg #[.int .u8 (bt l 1), .int .u16 (get16 l 4), .bool (f != 0), .int .u8 (bt l 8), .int .u8 (bt l 9), .int .u32 (get32 l 12), .int .u32 (get32 l 16), .slice A10 n2 c10, .slice A9 n3 c9]) (by simp [results, Try.results83, go_sem, kr]) rfl ⟨TF, fun _ => ⟨A10, n2, c10, A9, n3, c9, by rw [e1]; rfl, by rw [e2]; exact k10', by rw [e3]; exact k9', fun a e => by have := a10 a e; omega, fun a e => by have := a9 a e; omega⟩, fun hx => absurd HE.out hx⟩
          · rw [decide_eq_false h8]
            refine (may_no _ _).mono ?_
            rintro e w' ⟨rfl, rfl⟩
            have hq : q = true := by
              cases q with
              | true => rfl
              | false => have := HLE.out; simp at this; omega
            have hl8 : le = 8 := by rw [HLE.out, if_pos hq]
            exact ⟨rfl, pkPost_no 3 (by unfold rdE; rw [if_neg (by omega), hh, if_neg (by rw [hs]; omega), hf, if_neg (by omega), if_neg (by omega), hm, if_pos ⟨hq, by omega⟩]) (by omega) T5⟩
      · rw [show (f % 16384 == 0) = false from by simpa using h6]
        refine (may_no _ _).mono ?_
        rintro e w' ⟨rfl, rfl⟩
        exact ⟨rfl, pkPost_no 7 (by unfold rdE; rw [if_neg (by omega), hh, if_neg (by rw [hs]; omega), hf, if_pos h6]) (by omega) T4⟩
    · rw [show (s == 0) = false from by simpa using h5]
      refine (may_no _ _).mono ?_
      rintro e w' ⟨rfl, rfl⟩
      exact ⟨rfl, pkPost_no 5 (by unfold rdE; rw [if_neg (by omega), hh, if_pos (by rw [hs]; exact h5)]) (by omega) T3⟩
  · have hx := hP.no hE0
    subst hx
    exact ⟨rfl, pkPost_no (lenE q l) (by unfold rdE; rw [if_pos hE0]) hE0 hP.bel⟩
end Go.Proofs.Ytjjhnjkmoogloaa

namespace Go.Proofs.Ytjjhnjkmoogloaa
open Go.RowKit
set_option linter.unusedVariables false
set_option linter.unusedSimpArgs false
set_option maxHeartbeats 4000000
set_option maxRecDepth 100000

theorem catch_fault (a b : Nat) (x e : Int) (c0 c1 c2 c3 c4 c5 c6 c7 c8 : Value) (w : World) (hab : a ≠ b) (K : Blk w a #[c0, c1, c2, c3, c4, c5, c6, c7, c8] 26) (L : Blk w b #[.int .i64 x] 30) :
    CallsD Try.prog 82 #[.pointer (some ⟨a, 0, none⟩), .pointer (some ⟨b, 0, none⟩)] (.panicking [{ v := fault e, recovered := false }]) w fun r u' w' =>
      r = .returned (.tuple #[]) ∧ u' = .panicking [{ v := fault e, recovered := true }] ∧ Blk w' a #[.int .u8 0, .int .u16 0, .bool false, .int .u8 0, .int .u8 0, .int .u32 0, .int .u32 0, .slice none 0 0, .slice none 0 0] 26 ∧ Blk w' b #[.int .i64 e] 30 ∧
        (∀ B w0, Below B w0 w → B ≤ a → B ≤ b → Below B w0 w') := by
  have hta : ∀ (W : World) (v : Value), (Instr.typeAssert (.iface 115 v) 20 115 true).run Try.prog W = .ok (.tuple #[v, .bool true]) W := fun W v => by kernel_rfl
  have ka := K.cell
  have kb := L.cell
  have la := K.lt
  have lb := L.lt
  refine callsD_of_wpS Try.func82 rfl fun c₀ cs hu => ?_
  apply wpS_seq
  apply wpS_region
  simp [wpOpsS, go_sem, recoverD, hu, Try.ntmps82, Exit.thenS, fault]
  refine wpS_of_wp ?_
  simp only [List.size_toArray, List.length_cons, List.length_nil, Nat.reduceAdd, Nat.reduceSub, Array.replicate_succ, Array.replicate_zero, List.push_toArray, List.append_toArray, List.nil_append, List.cons_append, List.setIfInBounds_toArray, List.set_cons_zero, List.set_cons_succ]
  go_wp2_with fail
  have K1 := K.alloc (.cells #[.int .i64 e] 115)
  have L1 := L.alloc (.cells #[.int .i64 e] 115)
  have F1 := blk_new w #[.int .i64 e] 115 _ rfl
  have hB : ∀ B w0, Below B w0 w → B ≤ a → Below B w0 (w.alloc (.cells #[.int .i64 e] 115)) := fun B w0 h hB => h.alloc (by omega) _
  generalize hw1 : w.alloc (.cells #[.int .i64 e] 115) = w1 at *
  obtain ⟨f, hf⟩ : ∃ f, w.heap.size = f := ⟨_, rfl⟩
  rw [hf] at F1 la lb ⊢
  have nfa : a ≠ f := by omega
  have nfb : b ≠ f := by omega
  clear hw1 hf ka kb K L
  have ka := K1.cell
  have kb := L1.cell
  have kf := F1.cell
  have ra : ∀ (W : World) (j : Nat) (v : Value), (W.setCell ⟨a, j, none⟩ v).cell? ⟨f, 0, none⟩ = W.cell? ⟨f, 0, none⟩ := fun W j v => World.cell?_setCell_far W _ _ v nfa
  have rb : ∀ (W : World) (j : Nat) (v : Value), (W.setCell ⟨a, j, none⟩ v).cell? ⟨b, 0, none⟩ = W.cell? ⟨b, 0, none⟩ := fun W j v => World.cell?_setCell_far W _ _ v hab
  go_region
  go_wp2_with fail
  obtain ⟨w2, hw2, S⟩ := store9 K1 (.int .u8 0) (.int .u16 0) (.bool false) (.int .u8 0) (.int .u8 0) (.int .u32 0) (.int .u32 0) (.slice none 0 0) (.slice none 0 0)
  rw [hw2]
  have hfin : Blk (w2.setCell ⟨b, 0, none⟩ (.int .i64 e)).drew a #[.int .u8 0, .int .u16 0, .bool false, .int .u8 0, .int .u8 0, .int .u32 0, .int .u32 0, .slice none 0 0, .slice none 0 0] 26 ∧ Blk (w2.setCell ⟨b, 0, none⟩ (.int .i64 e)).drew b #[.int .i64 e] 30 ∧
      (∀ B w0, Below B w0 w → B ≤ a → B ≤ b → Below B w0 (w2.setCell ⟨b, 0, none⟩ (.int .i64 e)).drew) :=
    ⟨(S.blk.far ⟨b, 0, none⟩ (Ne.symm hab) _).drew, ((S.other (Ne.symm hab) L1).set_ 0 _).drew, fun B w0 h h1 h2 => below_drew ((S.bel (hB B w0 h h1) h1).setCell (p := ⟨b, 0, none⟩) h2 _)⟩
  exact ⟨rfl, _, rfl, .tuple #[], results_none rfl _ _ _, rfl, rfl, hfin⟩
theorem catch_idle (a b : Nat) (w : World) :
    CallsD Try.prog 82 #[.pointer (some ⟨a, 0, none⟩), .pointer (some ⟨b, 0, none⟩)] .returning w fun r u' w' => r = .returned (.tuple #[]) ∧ u' = .returning ∧ w = w' := by
  refine callsD_of_wpS Try.func82 rfl fun c₀ cs hu => ?_
  apply wpS_seq
  apply wpS_region
  simp [wpOpsS, go_sem, recoverD, hu, Try.ntmps82, Exit.thenS]
  refine wpS_of_wp ?_
  simp only [List.size_toArray, List.length_cons, List.length_nil, Nat.reduceAdd, Nat.reduceSub, Array.replicate_succ, Array.replicate_zero, List.push_toArray, List.append_toArray, List.nil_append, List.cons_append, List.setIfInBounds_toArray, List.set_cons_zero, List.set_cons_succ]
  go_wp2_with fail
  refine ⟨rfl, .returning, ?_, .tuple #[], results_none rfl _ _ _, rfl, rfl, rfl⟩
  rw [← hu]
structure RdPost (w : World) (q : Bool) (l : List UInt8) (e : Ending) (w' : World) : Prop where
  out : ∃ A1 n1 c1 A2 n2 c2, e = .returned (.tuple #[(.agg #[.int .u8 (rdPk q l).tos, .int .u16 (rdPk q l).id, .bool (rdPk q l).keep, .int .u8 (rdPk q l).ttl, .int .u8 (rdPk q l).proto, .int .u32 (rdPk q l).src, .int .u32 (rdPk q l).dst, .slice A1 n1 c1, .slice A2 n2 c2]), .int .i64 (rdE q l)]) ∧ Bs w' A1 n1 c1 (rdPk q l).opt ∧ Bs w' A2 n2 c2 (rdPk q l).dat ∧ (∀ a, A1 = some a → w.heap.size ≤ a.block) ∧ (∀ a, A2 = some a → w.heap.size ≤ a.block) ∧ Below w.heap.size w w'
theorem read_any (A : Option Addr) (n c : Nat) (l : List UInt8) (q : Bool) (le : Int) (hle : le = if q then 8 else 0) (w : World) (hb : Bs w A n c l) :
    Calls Try.prog 66 #[.slice A n c, .bool q, .int .i64 le] w (RdPost w q l) := by
  have hmf : ∀ (fn : Fn) (first cap : Array Value) (w : World), (Instr.makeFunc fn first cap).run Try.prog w = .ok (.func fn first cap) w := fun _ _ _ _ => rfl
  have HLE := Lib.hid hle
  clear hle
  go_enter_defers Try.func66, Try.ntmps66
  go_wp2_with fail
  obtain ⟨w0, hw0⟩ : ∃ w0, (w.alloc (.cells #[.int .u8 0, .int .u16 0, .bool false, .int .u8 0, .int .u8 0, .int .u32 0, .int .u32 0, .slice none 0 0, .slice none 0 0] 26)).alloc (.cells #[.int .i64 0] 30) = w0 := ⟨_, rfl⟩
  have P0 : Blk w0 w.heap.size #[.int .u8 0, .int .u16 0, .bool false, .int .u8 0, .int .u8 0, .int .u32 0, .int .u32 0, .slice none 0 0, .slice none 0 0] 26 := by rw [← hw0]; exact (blk_new w _ _ _ rfl).alloc _
  have E0 : Blk w0 (w.heap.size + 1) #[.int .i64 0] 30 := by rw [← hw0]; exact blk_new _ _ _ _ (by simp)
  have T0 : Below w.heap.size w w0 := by rw [← hw0]; (repeat (first | with_reducible exact Below.refl _ _ | with_reducible refine below_drew ?_ | with_reducible refine below_drewN ?_ _ | with_reducible refine below_alloc ?_ (Nat.le_refl _) _ | with_reducible refine Below.setCell ?_ (by first | exact Nat.le_refl _ | (simp only []; omega)) _ | with_reducible assumption))
  have hs : w0.heap.size = w.heap.size + 1 + 1 := by rw [← hw0]; simp
  have hb0 := hb.below T0
  obtain ⟨a, ha⟩ : ∃ a, w.heap.size = a := ⟨_, rfl⟩
  obtain ⟨b, hb'⟩ : ∃ b, a + 1 = b := ⟨_, rfl⟩
  rw [hw0, ← hs]
  rw [ha] at hs P0 E0
  rw [hb'] at hs E0
  rw [ha, hb']
  have hne : a ≠ b := by omega
  refine (packet_any w0 w0.heap.size A n c l q _ hb0 (below_alloc (Below.refl _ w0) (Nat.le_refl _) _) (Nat.le_refl _) (blk_new w0 _ _ _ rfl) le HLE.out).mono ?_
  intro e w1 hP
  have P1 := P0.below hP.bel
  have E1 := E0.below hP.bel
  have T1 := below_then T0 hP.bel
  clear hw0
  by_cases hE : rdE q l = 0
  · obtain ⟨A1, n1, c1, A2, n2, c2, rfl, k1, k2, a1, a2⟩ := hP.ok hE
    have hR : rdPk q l = rdP l := by unfold rdPk; rw [if_pos hE]
    obtain ⟨p, hp⟩ : ∃ p, rdP l = p := ⟨_, rfl⟩
    rw [hp] at k1 k2 hR ⊢
    have HE := Lib.hid hE
    have HR := Lib.hid hR
    have HA := Lib.hid ha
    have HB := Lib.hid hb'
    have HS := Lib.hid hs
    clear hE hP hp hR ha hb' hs
    have pc := P1.cell
    have ec := E1.cell
    have nb : ∀ (W : World) (j : Nat) (v : Value), (W.setCell ⟨a, j, none⟩ v).cell? ⟨b, 0, none⟩ = W.cell? ⟨b, 0, none⟩ := fun W j v => World.cell?_setCell_far W _ _ v hne
    go_wp2_with fail
    obtain ⟨w2, hw2, S⟩ := store9 P1 (.int .u8 p.tos) (.int .u16 p.id) (.bool p.keep) (.int .u8 p.ttl) (.int .u8 p.proto) (.int .u32 p.src) (.int .u32 p.dst) (.slice A1 n1 c1) (.slice A2 n2 c2)
    rw [hw2]
    have hsz := HA.out
    have hsb := HB.out
    have hss := HS.out
    have P3 := S.blk.far ⟨b, 0, none⟩ (Ne.symm hne) (.int .i64 0)
    have E3 : Blk (w2.setCell ⟨b, 0, none⟩ (.int .i64 0)) b #[.int .i64 0] 30 := (S.other (Ne.symm hne) E1).set_ 0 _
    have T3 := (S.bel T1 (by omega)).setCell (p := ⟨b, 0, none⟩) (by simp; omega) (.int .i64 0)
    have K1 := (S.bs k1 (fun x e => by have := a1 x e; omega)).away ⟨b, 0, none⟩ (fun x e => by have := a1 x e; simp; omega) (.int .i64 0)
    have K2 := (S.bs k2 (fun x e => by have := a2 x e; omega)).away ⟨b, 0, none⟩ (fun x e => by have := a2 x e; simp; omega) (.int .i64 0)
    clear hsz hsb hss hw2 S pc ec nb k1 k2 T1 P1 E1
    generalize w2.setCell ⟨b, 0, none⟩ (.int .i64 0) = w3 at *
    refine leaves_cons (f := 82) (args := #[.pointer (some ⟨a, 0, none⟩), .pointer (some ⟨b, 0, none⟩)]) (by simp) (by simp [go_sem]) ?_
    refine (catch_idle a b _).mono ?_
    rintro e u' w4 ⟨rfl, rfl, rfl⟩
    have pc := P3.cell
    have ec := E3.cell
    simp [Leaves, settle, results, Try.results66, go_sem, pc, ec]
    exact ⟨A1, n1, c1, A2, n2, c2, by rw [HR.out, HE.out], by rw [HR.out]; exact K1, by rw [HR.out]; exact K2, fun x e => Nat.le_trans T0.size (a1 x e), fun x e => Nat.le_trans T0.size (a2 x e), T3⟩
  · have hx := hP.no hE
    subst hx
    clear hP
    have HA := Lib.hid ha
    have HB := Lib.hid hb'
    have HS := Lib.hid hs
    clear ha hb' hs
    go_wp2_with fail
    refine leaves_cons (f := 82) (args := #[.pointer (some ⟨a, 0, none⟩), .pointer (some ⟨b, 0, none⟩)]) (by simp) (by simp [go_sem]) ?_
    refine (catch_fault a b _ _ _ _ _ _ _ _ _ _ _ _ hne P1 E1).mono ?_
    rintro e u' w2 ⟨rfl, rfl, P2, E2, hB⟩
    have pc := P2.cell
    have ec := E2.cell
    have T2 := hB _ _ T1 (by have := HA.out; omega) (by have := HA.out; have := HB.out; omega)
    simp [Leaves, settle, results, Try.results66, go_sem, pc, ec]
    have hR : rdPk q l = zP := by unfold rdPk; rw [if_neg hE]
    exact ⟨none, 0, 0, none, 0, 0, by rw [hR]; rfl, by rw [hR]; exact Bs.none_ _, by rw [hR]; exact Bs.none_ _, fun x e => (by cases e), fun x e => (by cases e), T2⟩
theorem ipParse_any (A : Option Addr) (n c : Nat) (l : List UInt8) (w : World) (hb : Bs w A n c l) :
    Calls Try.prog 34 #[.slice A n c] w (RdPost w false l) := by
  go_enter Try.func34, Try.ntmps34
  go_wp2_with fail
  refine (read_any A n c l false 0 rfl _ (hb.alloc _)).mono ?_
  intro e w1 hP
  obtain ⟨A1, n1, c1, A2, n2, c2, rfl, k1, k2, a1, a2, T1⟩ := hP.out
  have P1 := (blk_new w #[.int .u8 0, .int .u16 0, .bool false, .int .u8 0, .int .u8 0, .int .u32 0, .int .u32 0, .slice none 0 0, .slice none 0 0] 26 _ rfl).below T1
  have T := below_then ((Below.refl _ w).alloc (Nat.le_refl _) _) T1
  clear hP T1
  have pc := P1.cell
  generalize hp : rdPk false l = p at *
  generalize he : rdE false l = e at *
  have HP := Lib.hid hp
  have HE := Lib.hid he
  clear hp he
  go_wp2_with fail
  obtain ⟨w2, hw2, S⟩ := store9 P1 (.int .u8 p.tos) (.int .u16 p.id) (.bool p.keep) (.int .u8 p.ttl) (.int .u8 p.proto) (.int .u32 p.src) (.int .u32 p.dst) (.slice A1 n1 c1) (.slice A2 n2 c2)
  rw [hw2]
  have K1 := S.bs k1 (fun x e => by have := a1 x e; simp at this; omega)
  have K2 := S.bs k2 (fun x e => by have := a2 x e; simp at this; omega)
  have TF := S.bel T (Nat.le_refl _)
  have pf := S.blk.cell
  clear hw2 S P1 pc k1 k2 T
  refine bodyPost_ret (v := .tuple #[(.agg #[.int .u8 (p).tos, .int .u16 (p).id, .bool (p).keep, .int .u8 (p).ttl, .int .u8 (p).proto, .int .u32 (p).src, .int .u32 (p).dst, .slice A1 n1 c1, .slice A2 n2 c2]), .int .i64 e]) (by simp [results, Try.results34, go_sem, pf]) rfl ⟨A1, n1, c1, A2, n2, c2, by rw [HP.out, HE.out], by rw [HP.out]; exact K1, by rw [HP.out]; exact K2, fun x e => by have := a1 x e; simp at this; omega, fun x e => by have := a2 x e; simp at this; omega, TF⟩
end Go.Proofs.Ytjjhnjkmoogloaa

namespace Go.Proofs.Ytjjhnjkmoogloaa
open Go.RowKit
set_option linter.unusedVariables false
set_option linter.unusedSimpArgs false
set_option linter.unusedSimpArgs false
set_option maxHeartbeats 4000000
set_option maxRecDepth 100000

def bdE (p : Pkt) : Int := if 40 < p.opt.length ∨ p.opt.length % 4 ≠ 0 then 4 else if 65535 < 20 + p.opt.length + p.dat.length then 8 else 0
theorem own_cap (w : World) (base : Nat) (e : TypeId) (n cap : Nat) (h : n ≤ cap) (hm : cap ≤ 200000000000000) (hb : base ≤ w.heap.size) :
    Own (w.alloc (.cells (cu (zs cap)).toArray e)) base e (some ⟨w.heap.size, 0, none⟩) n cap (zs n) :=
  ⟨zs_length n, by omega, by simp [cu_length, zs_length], .inr ⟨_, cap, _, rfl, hb, heap_alloc_new .., h, by simp only [maxLen]; omega, by simp [cu_length, zs_length], by simp [cu, zs, List.take_replicate, Nat.min_eq_left h]⟩⟩
theorem own_capk (w : World) (k : Nat) (hk : w.heap.size = k) (base : Nat) (e : TypeId) (n cap : Nat) (h : n ≤ cap) (hm : cap ≤ 200000000000000) (hb : base ≤ k) :
    Own (w.alloc (.cells (cu (zs cap)).toArray e)) base e (some ⟨k, 0, none⟩) n cap (zs n) := by
  subst hk
  exact own_cap w base e n cap h hm hb
theorem run_make_cap {P : Program} (t e : TypeId) (ht : P.underlying t = some (.slice e)) (hinfo : (P.info? e).map (fun i => (i.zero, i.size, i.bytes)) = some (some (.int .u8 0), 1, 1)) (kl kc : IntKind) (n cap : Int) (m c : Nat) (hn : n = (m : Int)) (hc : cap = (c : Int)) (h : m ≤ c) (hm : c ≤ 200000000000000) (W : World) :
    (Instr.makeSlice t (.int kl n) (.int kc cap)).run P W = .ok (.slice (some ⟨W.heap.size, 0, none⟩) m c) (W.alloc (.cells (cu (zs c)).toArray e)) := by
  subst hn hc
  obtain ⟨i, hi, hz, hs, hb⟩ := info_parts hinfo
  have hr := run_make (P := P) W t e i (.int .u8 0) ht hi hz kl kc m c (by omega) (by omega) (by rw [hb]; omega) (by omega)
  simp only [Int.toNat_natCast, hs, Nat.mul_one] at hr
  rw [hr, cu_zs]
  rfl
theorem or_64 {x : Int} (h0 : 5 ≤ x) (h1 : x ≤ 15) : bits .or .i64 64 x = 64 + x := by
  have : x = 5 ∨ x = 6 ∨ x = 7 ∨ x = 8 ∨ x = 9 ∨ x = 10 ∨ x = 11 ∨ x = 12 ∨ x = 13 ∨ x = 14 ∨ x = 15 := by omega
  rcases this with rfl | rfl | rfl | rfl | rfl | rfl | rfl | rfl | rfl | rfl | rfl <;> decide
def ldR (p : Pkt) : List UInt8 := ((((zs 20).set 0 (ub (64 + (20 + (p.opt.length : Int)) / 4))).set 1 (ub p.tos)).set 8 (ub p.ttl)).set 9 (ub p.proto)
def hdR (p : Pkt) : List UInt8 := put32 (put32 (put16 (put16 (if p.keep = true then (ldR p).set 6 (ub 64) else ldR p) 2 (20 + (p.opt.length : Int) + (p.dat.length : Int))) 4 p.id) 12 p.src) 16 p.dst ++ p.opt
def bdR (p : Pkt) : List UInt8 := put16 (hdR p) 10 (csum (hdR p)) ++ p.dat
def isO (B n : Nat) (l : List UInt8) : World → Value → Prop := fun W v => ∃ A c, v = .slice A n c ∧ Own W B 5 A n c l
theorem st_isO {B n : Nat} {l : List UInt8} : ∀ w w' v, isO B n l w v → Below w.heap.size w w' → isO B n l w' v := fun _ _ _ ⟨A, c, e, k⟩ hb => ⟨A, c, e, k.below hb⟩
theorem own_isO {w : World} {base B : Nat} {A : Option Addr} {n c : Nat} {l : List UInt8} (h : Own w base 5 A n c l) (hr : B ≤ base) : isO B n l w (.slice A n c) := ⟨A, c, rfl, h.mono hr⟩
theorem build_any (p : Pkt) (hp : p.Ok) (A1 : Option Addr) (n1 c1 : Nat) (A2 : Option Addr) (n2 c2 : Nat) (w : World) (k1 : Bs w A1 n1 c1 p.opt) (k2 : Bs w A2 n2 c2 p.dat)
    (h1 : (n1 : Int) ≤ 40) (h2 : ((n1 : Int) % 4 != 0) = false) (h3 : 20 + (n1 : Int) + n2 ≤ 65535) :
    Calls Try.prog 33 #[(.agg #[.int .u8 (p).tos, .int .u16 (p).id, .bool (p).keep, .int .u8 (p).ttl, .int .u8 (p).proto, .int .u32 (p).src, .int .u32 (p).dst, .slice A1 n1 c1, .slice A2 n2 c2])] w fun e w' => ∃ A n c, e = .returned (.tuple #[.slice A n c, .int .i64 0]) ∧ Own w' w.heap.size 5 A n c (bdR p) ∧ Below w.heap.size w w' := by
  have b1 := k1.max
  have b2 := k2.max
  obtain ⟨⟨o1, o1'⟩, ⟨o2, o2'⟩, ⟨o3, o3'⟩, ⟨o4, o4'⟩, ⟨o5, o5'⟩, ⟨o6, o6'⟩⟩ := hp
  obtain ⟨kp, hkp⟩ : ∃ kp, p.keep = kp := ⟨_, rfl⟩
  rw [hkp]
  obtain ⟨m, hm⟩ : ∃ m : Int, 20 + (n1 : Int) = m := ⟨_, rfl⟩
  obtain ⟨z, hz⟩ : ∃ z : Int, m + (n2 : Int) = z := ⟨_, rfl⟩
  have m0 : 20 ≤ m := by omega
  have m1 : m ≤ 60 := by omega
  have z0 : 20 ≤ z := by omega
  have z1 : z ≤ 65535 := by omega
  have hor := or_64 (x := m / 4) (by omega) (by omega)
  obtain ⟨y, hy⟩ : ∃ y : Int, 64 + m / 4 = y := ⟨_, rfl⟩
  rw [hy] at hor
  have y0 : 69 ≤ y := by omega
  have y1 : y ≤ 79 := by omega
  have HY := Lib.hid hy
  have hmk := run_make_cap (P := Try.prog) 24 5 Try.underlying24 info_u8 .i64 .i64 20 z 20 (20 + n1 + n2) rfl (by omega) (by omega) (by omega)
  clear hy h3
  generalize hc : 20 + n1 + n2 = c at hmk
  have c0 : 20 ≤ c := by omega
  have cz : (c : Int) = z := by omega
  have hcm : c ≤ 65535 := by omega
  clear hc
  obtain ⟨k, hk⟩ : ∃ k : Nat, w.heap.size = k := ⟨_, rfl⟩
  obtain ⟨w1, hw1⟩ : ∃ w1, w.alloc (.cells #[.int .u8 p.tos, .int .u16 p.id, .bool kp, .int .u8 p.ttl, .int .u8 p.proto, .int .u32 p.src, .int .u32 p.dst, .slice A1 n1 c1, .slice A2 n2 c2] 26) = w1 := ⟨_, rfl⟩
  have B0 : Blk w1 k #[.int .u8 p.tos, .int .u16 p.id, .bool kp, .int .u8 p.ttl, .int .u8 p.proto, .int .u32 p.src, .int .u32 p.dst, .slice A1 n1 c1, .slice A2 n2 c2] 26 := by rw [← hw1]; exact blk_new w _ _ k hk
  have R1 : Below w.heap.size w w1 := by rw [← hw1]; (repeat (first | with_reducible exact Below.refl _ _ | with_reducible refine below_drew ?_ | with_reducible refine below_drewN ?_ _ | with_reducible refine below_alloc ?_ (Nat.le_refl _) _ | with_reducible refine Below.setCell ?_ (by first | exact Nat.le_refl _ | (simp only []; omega)) _ | with_reducible assumption))
  obtain ⟨g, hg⟩ : ∃ g : Nat, k + 1 = g := ⟨_, rfl⟩
  have hg1 : w1.heap.size = g := by rw [← hw1, ← hg]; simp [hk]
  have x1 := k1.below R1
  have x2 := k2.below R1
  have O0 := own_capk w1 g hg1 w1.heap.size 5 20 c c0 (by omega) (by omega)
  have T0 : Below w1.heap.size w1 (w1.alloc (.cells (cu (zs c)).toArray 5)) := by (repeat (first | with_reducible exact Below.refl _ _ | with_reducible refine below_drew ?_ | with_reducible refine below_drewN ?_ _ | with_reducible refine below_alloc ?_ (Nat.le_refl _) _ | with_reducible refine Below.setCell ?_ (by first | exact Nat.le_refl _ | (simp only []; omega)) _ | with_reducible assumption))
  have hgk : g ≠ k := by omega
  have hkg : k ≠ g := by omega
  have q0 := B0.cell
  have q1 := (B0.below T0).cell
  clear hg
  go_enter Try.func33, Try.ntmps33
  go_wp2_with fail
  clear q0 q1
  generalize hW0 : w1.alloc (.cells (cu (zs c)).toArray 5) = W0 at O0 T0 ⊢
  clear hW0
  have B1 := B0.below T0
  have hgb : w1.heap.size ≤ g := by omega
  have D0 := O0
  have E0 := B1
  have D1 := D0.set_ (i := 0) (by omega) y (y := y) (by omega)
  have E1 := E0.far ⟨g, 0, none⟩ hgk (.int .u8 y)
  have D2 := D1.set_ (i := 1) (by omega) p.tos (y := p.tos) (by omega)
  have E2 := E1.far ⟨g, 1, none⟩ hgk (.int .u8 p.tos)
  have D3 := D2.set_ (i := 8) (by omega) p.ttl (y := p.ttl) (by omega)
  have E3 := E2.far ⟨g, 8, none⟩ hgk (.int .u8 p.ttl)
  have D4 := D3.set_ (i := 9) (by omega) p.proto (y := p.proto) (by omega)
  have E4 := E3.far ⟨g, 9, none⟩ hgk (.int .u8 p.proto)
  have T4 := ((T0.setCell (p := ⟨g, 0, none⟩) hgb (.int .u8 y)).setCell (p := ⟨g, 1, none⟩) hgb (.int .u8 p.tos)).setCell (p := ⟨g, 8, none⟩) hgb (.int .u8 p.ttl) |>.setCell (p := ⟨g, 9, none⟩) hgb (.int .u8 p.proto)
  have e0 := E0.cell
  have e1 := E1.cell
  have e2 := E2.cell
  have e3 := E3.cell
  have d0 := D0.at_ (i := 0) (by omega)
  have d1 := D1.at_ (i := 1) (by omega)
  have d2 := D2.at_ (i := 8) (by omega)
  have d3 := D3.at_ (i := 9) (by omega)
  have f0 := O0.at_ (i := 0) (by omega)
  have f1 := O0.at_ (i := 1) (by omega)
  have f8 := O0.at_ (i := 8) (by omega)
  have f9 := O0.at_ (i := 9) (by omega)
  clear B1 T0
  go_region
  have O4 := D4.drew
  have T4' := below_drew T4
  clear e0 e1 e2 e3 d0 d1 d2 d3 f0 f1 f8 f9 D0 D1 D2 D3 E0 E1 E2 E3 E4
  generalize ((((W0.setCell ⟨g, 0, none⟩ (.int .u8 y)).setCell ⟨g, 1, none⟩ (.int .u8 p.tos)).setCell ⟨g, 8, none⟩ (.int .u8 p.ttl)).setCell ⟨g, 9, none⟩ (.int .u8 p.proto)).drew = W4 at O4 T4' ⊢
  clear D4 T4 O0
  have E4 := B0.below T4'
  obtain ⟨L4, hL4⟩ : ∃ L4, ((((zs 20).set 0 (ub y)).set 1 (ub p.tos)).set 8 (ub p.ttl)).set 9 (ub p.proto) = L4 := ⟨_, rfl⟩
  rw [hL4] at O4
  have HL4 := Lib.hid hL4
  clear hL4
  have gc5 := E4.cell
  have d6 := O4.at_ (i := 6) (by omega)
  have hw1' : IntKind.i64.wrap z = z := by rw [IntKind.wrap_i64]; omega
  have hw2' : IntKind.u16.wrap z = z := by first | (rw [IntKind.wrap_u16]; omega) | (simp [IntKind.wrap, IntKind.signed, IntKind.bits]; omega)
  cases kp
  · go_wp2_with fail
    have O5 := O4
    have T5 := T4'
    clear gc5 d6 E4
    obtain ⟨L5, hL5⟩ : ∃ L5, L4 = L5 := ⟨_, rfl⟩
    rw [hL5] at O5
    have HL5 := Lib.hid hL5
    clear hL5 O4
    have E5 := B0.below T5
    have y1 := x1.below T5
    refine region_txt 11 (by kernel_rfl) (by kernel_rfl) ?_; (iterate 11 (first | (apply ObsK.skip (by rfl)) | (apply ObsK.v (by rfl); (intro wo hT; (repeat (first | (intro _ _ k; try have hcv := cv k))); (have bo := O5.bs.below hT; have gc := (E5.below hT).cell); refine Goes.mk ?_; go_simp; first | exact goes_v | exact goes_b (by assumption) | (refine goes_enter ?_; first | (go_at_call 50; ((with_reducible refine (put16_any (some ⟨g, 0, none⟩) 20 c L5 2 z (by omega) z1 wo bo).mono ?_); rintro e w9 ⟨A9, c9, rfl, ho9, hB9⟩); exact ret_b ho9.bs hB9) | (go_at_call 50; ((with_reducible refine (put16_any _ 20 _ (put16 L5 2 z) 4 p.id o2 o2' wo (by assumption)).mono ?_); rintro e w9 ⟨A9, c9, rfl, ho9, hB9⟩); exact ret_b ho9.bs hB9)))) | (apply ObsK.b (by rfl); (intro wo hT; (repeat (first | (intro _ _ k; try have hcv := cv k))); (have bo := O5.bs.below hT; have gc := (E5.below hT).cell); refine Goes.mk ?_; go_simp; first | exact goes_v | exact goes_b (by assumption) | (refine goes_enter ?_; first | (go_at_call 50; ((with_reducible refine (put16_any (some ⟨g, 0, none⟩) 20 c L5 2 z (by omega) z1 wo bo).mono ?_); rintro e w9 ⟨A9, c9, rfl, ho9, hB9⟩); exact ret_b ho9.bs hB9) | (go_at_call 50; ((with_reducible refine (put16_any _ 20 _ (put16 L5 2 z) 4 p.id o2 o2' wo (by assumption)).mono ?_); rintro e w9 ⟨A9, c9, rfl, ho9, hB9⟩); exact ret_b ho9.bs hB9)))))); refine ObsK.nil ?_; intro wz hBz; simp only [finOn, List.drop_succ_cons, List.drop_zero, List.drop_nil]
    intro A7 c7 k7 A6 c6 k6
    go_simp
    have T6 := below_then T5 hBz
    have E6 := B0.below T6
    clear hBz
    go_wp2_with fail
    refine region_txt 7 (by kernel_rfl) (by kernel_rfl) ?_; (iterate 7 (first | (apply ObsK.skip (by rfl)) | (apply ObsK.v (by rfl); (intro wo hT; (repeat (first | (intro v hv; ((obtain ⟨A8, c8, rfl, ho8⟩ := hv; have k8 := ho8.bs))) | (intro _ _ k; try have hcv := cv k))); (have k7' := k7.below hT; have gc := (E6.below hT).cell; have hsz : g ≤ wo.heap.size := (by rw [← hg1]; exact (below_then T6 hT).size)); refine Goes.mk ?_; go_simp; first | exact goes_v | exact goes_b (by assumption) | (refine goes_enter ?_; first | (go_at_call 60; ((with_reducible refine (put32_any A7 20 c7 _ 12 p.src o5 o5' wo k7').mono ?_); rintro e w9 ⟨A9, c9, rfl, ho9, hB9⟩); exact ret_p (own_isO ho9 hsz) hB9) | (go_at_call 60; ((with_reducible refine (put32_any _ 20 _ _ 16 p.dst o6 o6' wo (by assumption)).mono ?_); rintro e w9 ⟨A9, c9, rfl, ho9, hB9⟩); exact ret_p (own_isO ho9 hsz) hB9)))) | (apply ObsK.b (by rfl); (intro wo hT; (repeat (first | (intro v hv; ((obtain ⟨A8, c8, rfl, ho8⟩ := hv; have k8 := ho8.bs))) | (intro _ _ k; try have hcv := cv k))); (have k7' := k7.below hT; have gc := (E6.below hT).cell; have hsz : g ≤ wo.heap.size := (by rw [← hg1]; exact (below_then T6 hT).size)); refine Goes.mk ?_; go_simp; first | exact goes_v | exact goes_b (by assumption) | (refine goes_enter ?_; first | (go_at_call 60; ((with_reducible refine (put32_any A7 20 c7 _ 12 p.src o5 o5' wo k7').mono ?_); rintro e w9 ⟨A9, c9, rfl, ho9, hB9⟩); exact ret_p (own_isO ho9 hsz) hB9) | (go_at_call 60; ((with_reducible refine (put32_any _ 20 _ _ 16 p.dst o6 o6' wo (by assumption)).mono ?_); rintro e w9 ⟨A9, c9, rfl, ho9, hB9⟩); exact ret_p (own_isO ho9 hsz) hB9)))) | (apply ObsK.p (q := isO g _ _) (by rfl) st_isO; (intro wo hT; (repeat (first | (intro v hv; ((obtain ⟨A8, c8, rfl, ho8⟩ := hv; have k8 := ho8.bs))) | (intro _ _ k; try have hcv := cv k))); (have k7' := k7.below hT; have gc := (E6.below hT).cell; have hsz : g ≤ wo.heap.size := (by rw [← hg1]; exact (below_then T6 hT).size)); refine Goes.mk ?_; go_simp; first | exact goes_v | exact goes_b (by assumption) | (refine goes_enter ?_; first | (go_at_call 60; ((with_reducible refine (put32_any A7 20 c7 _ 12 p.src o5 o5' wo k7').mono ?_); rintro e w9 ⟨A9, c9, rfl, ho9, hB9⟩); exact ret_p (own_isO ho9 hsz) hB9) | (go_at_call 60; ((with_reducible refine (put32_any _ 20 _ _ 16 p.dst o6 o6' wo (by assumption)).mono ?_); rintro e w9 ⟨A9, c9, rfl, ho9, hB9⟩); exact ret_p (own_isO ho9 hsz) hB9)))))); refine ObsK.nil ?_; intro wz hBz; simp only [finOn, List.drop_succ_cons, List.drop_zero, List.drop_nil]
    intro v9 hv9 v8 hv8
    obtain ⟨A9, c9, rfl, O9⟩ := hv9
    rw [← hg1] at O9
    obtain ⟨A8, c8, rfl, O8⟩ := hv8
    go_simp
    have T9 := below_then T6 hBz
    have E9 := (B0.below T9).cell
    clear E5 E6 T5 T6 hBz k6 k7 O5
    have s9 := T9.size
    go_wp2_with (first
      | (at_builtin; refine wpList_append_bs (w0 := w1) _ rfl _ _ _ rfl w1.heap.size 5 Try.underlying24 info_u8 A9 20 c9 _ rfl O9 A1 n1 c1 p.opt rfl (x1.below T9) T9 (by omega) (by first | exact Nat.le_refl _ | exact Below.size T9 | omega | (simp <;> omega)) ?_; intro A10 n10 c10 w10 ho10 hB10 _ hz10; have u10 : n10 ≤ 60 := (by rw [← ho10.len, List.length_append, O9.len, x1.len]; omega); have E10 := (B0.below hB10).cell)
      | (go_at_call 65; ((with_reducible refine (sum_any A10 n10 c10 _ _ ho10.bs).mono ?_); rintro e w11 ⟨rfl, hB11⟩); have T11 := below_then hB10 hB11)
      | (go_at_call 50; ((with_reducible refine (put16_any A10 n10 c10 _ 10 _ (csum_lo _) (csum_hi _) w11 (ho10.bs.below hB11)).mono ?_); rintro e w12 ⟨A12, c12, rfl, ho12, hB12⟩); have T12 := below_then T11 hB12; have s12 := T12.size; have E12 := (B0.below T12).cell)
      | (at_builtin; refine wpList_append_bs (w0 := w1) _ rfl _ _ _ rfl w1.heap.size 5 Try.underlying24 info_u8 A12 n10 c12 _ rfl (ho12.mono T11.size) A2 n2 c2 p.dat rfl (x2.below T12) T12 (by omega) (by first | exact Nat.le_refl _ | exact Below.size T12 | omega | (simp <;> omega)) ?_; intro A13 n13 c13 w13 ho13 hB13 _ hz13))
    have hl : ldR p = L4 := by unfold ldR; rw [x1.len, hm, HY.out, HL4.out]
    have hh : hdR p = put32 (put32 (put16 (put16 L5 2 z) 4 p.id) 12 p.src) 16 p.dst ++ p.opt := by unfold hdR; rw [hkp, hl, x1.len, x2.len, hm, hz, if_neg (by decide), HL5.out]
    refine bodyPost_ret (v := .tuple #[.slice A13 n13 c13, .int .i64 0]) (by simp [results, Try.results33, go_sem]) rfl ⟨A13, n13, c13, rfl, ?_, below_then R1 hB13⟩
    have hf := ho13.mono R1.size
    unfold bdR
    rw [hh]
    exact hf
  · go_wp2_with fail
    have O5 := O4.set_ (i := 6) (by omega) 64 (y := 64) (by omega)
    have T5 := T4'.setCell (p := ⟨g, 6, none⟩) hgb (.int .u8 64)
    clear gc5 d6 E4
    generalize W4.setCell ⟨g, 6, none⟩ (.int .u8 64) = W5 at O5 T5 ⊢
    obtain ⟨L5, hL5⟩ : ∃ L5, L4.set 6 (ub 64) = L5 := ⟨_, rfl⟩
    rw [hL5] at O5
    have HL5 := Lib.hid hL5
    clear hL5 O4 T4'
    have E5 := B0.below T5
    have y1 := x1.below T5
    refine region_txt 11 (by kernel_rfl) (by kernel_rfl) ?_; (iterate 11 (first | (apply ObsK.skip (by rfl)) | (apply ObsK.v (by rfl); (intro wo hT; (repeat (first | (intro _ _ k; try have hcv := cv k))); (have bo := O5.bs.below hT; have gc := (E5.below hT).cell); refine Goes.mk ?_; go_simp; first | exact goes_v | exact goes_b (by assumption) | (refine goes_enter ?_; first | (go_at_call 50; ((with_reducible refine (put16_any (some ⟨g, 0, none⟩) 20 c L5 2 z (by omega) z1 wo bo).mono ?_); rintro e w9 ⟨A9, c9, rfl, ho9, hB9⟩); exact ret_b ho9.bs hB9) | (go_at_call 50; ((with_reducible refine (put16_any _ 20 _ (put16 L5 2 z) 4 p.id o2 o2' wo (by assumption)).mono ?_); rintro e w9 ⟨A9, c9, rfl, ho9, hB9⟩); exact ret_b ho9.bs hB9)))) | (apply ObsK.b (by rfl); (intro wo hT; (repeat (first | (intro _ _ k; try have hcv := cv k))); (have bo := O5.bs.below hT; have gc := (E5.below hT).cell); refine Goes.mk ?_; go_simp; first | exact goes_v | exact goes_b (by assumption) | (refine goes_enter ?_; first | (go_at_call 50; ((with_reducible refine (put16_any (some ⟨g, 0, none⟩) 20 c L5 2 z (by omega) z1 wo bo).mono ?_); rintro e w9 ⟨A9, c9, rfl, ho9, hB9⟩); exact ret_b ho9.bs hB9) | (go_at_call 50; ((with_reducible refine (put16_any _ 20 _ (put16 L5 2 z) 4 p.id o2 o2' wo (by assumption)).mono ?_); rintro e w9 ⟨A9, c9, rfl, ho9, hB9⟩); exact ret_b ho9.bs hB9)))))); refine ObsK.nil ?_; intro wz hBz; simp only [finOn, List.drop_succ_cons, List.drop_zero, List.drop_nil]
    intro A7 c7 k7 A6 c6 k6
    go_simp
    have T6 := below_then T5 hBz
    have E6 := B0.below T6
    clear hBz
    go_wp2_with fail
    refine region_txt 7 (by kernel_rfl) (by kernel_rfl) ?_; (iterate 7 (first | (apply ObsK.skip (by rfl)) | (apply ObsK.v (by rfl); (intro wo hT; (repeat (first | (intro v hv; ((obtain ⟨A8, c8, rfl, ho8⟩ := hv; have k8 := ho8.bs))) | (intro _ _ k; try have hcv := cv k))); (have k7' := k7.below hT; have gc := (E6.below hT).cell; have hsz : g ≤ wo.heap.size := (by rw [← hg1]; exact (below_then T6 hT).size)); refine Goes.mk ?_; go_simp; first | exact goes_v | exact goes_b (by assumption) | (refine goes_enter ?_; first | (go_at_call 60; ((with_reducible refine (put32_any A7 20 c7 _ 12 p.src o5 o5' wo k7').mono ?_); rintro e w9 ⟨A9, c9, rfl, ho9, hB9⟩); exact ret_p (own_isO ho9 hsz) hB9) | (go_at_call 60; ((with_reducible refine (put32_any _ 20 _ _ 16 p.dst o6 o6' wo (by assumption)).mono ?_); rintro e w9 ⟨A9, c9, rfl, ho9, hB9⟩); exact ret_p (own_isO ho9 hsz) hB9)))) | (apply ObsK.b (by rfl); (intro wo hT; (repeat (first | (intro v hv; ((obtain ⟨A8, c8, rfl, ho8⟩ := hv; have k8 := ho8.bs))) | (intro _ _ k; try have hcv := cv k))); (have k7' := k7.below hT; have gc := (E6.below hT).cell; have hsz : g ≤ wo.heap.size := (by rw [← hg1]; exact (below_then T6 hT).size)); refine Goes.mk ?_; go_simp; first | exact goes_v | exact goes_b (by assumption) | (refine goes_enter ?_; first | (go_at_call 60; ((with_reducible refine (put32_any A7 20 c7 _ 12 p.src o5 o5' wo k7').mono ?_); rintro e w9 ⟨A9, c9, rfl, ho9, hB9⟩); exact ret_p (own_isO ho9 hsz) hB9) | (go_at_call 60; ((with_reducible refine (put32_any _ 20 _ _ 16 p.dst o6 o6' wo (by assumption)).mono ?_); rintro e w9 ⟨A9, c9, rfl, ho9, hB9⟩); exact ret_p (own_isO ho9 hsz) hB9)))) | (apply ObsK.p (q := isO g _ _) (by rfl) st_isO; (intro wo hT; (repeat (first | (intro v hv; ((obtain ⟨A8, c8, rfl, ho8⟩ := hv; have k8 := ho8.bs))) | (intro _ _ k; try have hcv := cv k))); (have k7' := k7.below hT; have gc := (E6.below hT).cell; have hsz : g ≤ wo.heap.size := (by rw [← hg1]; exact (below_then T6 hT).size)); refine Goes.mk ?_; go_simp; first | exact goes_v | exact goes_b (by assumption) | (refine goes_enter ?_; first | (go_at_call 60; ((with_reducible refine (put32_any A7 20 c7 _ 12 p.src o5 o5' wo k7').mono ?_); rintro e w9 ⟨A9, c9, rfl, ho9, hB9⟩); exact ret_p (own_isO ho9 hsz) hB9) | (go_at_call 60; ((with_reducible refine (put32_any _ 20 _ _ 16 p.dst o6 o6' wo (by assumption)).mono ?_); rintro e w9 ⟨A9, c9, rfl, ho9, hB9⟩); exact ret_p (own_isO ho9 hsz) hB9)))))); refine ObsK.nil ?_; intro wz hBz; simp only [finOn, List.drop_succ_cons, List.drop_zero, List.drop_nil]
    intro v9 hv9 v8 hv8
    obtain ⟨A9, c9, rfl, O9⟩ := hv9
    rw [← hg1] at O9
    obtain ⟨A8, c8, rfl, O8⟩ := hv8
    go_simp
    have T9 := below_then T6 hBz
    have E9 := (B0.below T9).cell
    clear E5 E6 T5 T6 hBz k6 k7 O5
    have s9 := T9.size
    go_wp2_with (first
      | (at_builtin; refine wpList_append_bs (w0 := w1) _ rfl _ _ _ rfl w1.heap.size 5 Try.underlying24 info_u8 A9 20 c9 _ rfl O9 A1 n1 c1 p.opt rfl (x1.below T9) T9 (by omega) (by first | exact Nat.le_refl _ | exact Below.size T9 | omega | (simp <;> omega)) ?_; intro A10 n10 c10 w10 ho10 hB10 _ hz10; have u10 : n10 ≤ 60 := (by rw [← ho10.len, List.length_append, O9.len, x1.len]; omega); have E10 := (B0.below hB10).cell)
      | (go_at_call 65; ((with_reducible refine (sum_any A10 n10 c10 _ _ ho10.bs).mono ?_); rintro e w11 ⟨rfl, hB11⟩); have T11 := below_then hB10 hB11)
      | (go_at_call 50; ((with_reducible refine (put16_any A10 n10 c10 _ 10 _ (csum_lo _) (csum_hi _) w11 (ho10.bs.below hB11)).mono ?_); rintro e w12 ⟨A12, c12, rfl, ho12, hB12⟩); have T12 := below_then T11 hB12; have s12 := T12.size; have E12 := (B0.below T12).cell)
      | (at_builtin; refine wpList_append_bs (w0 := w1) _ rfl _ _ _ rfl w1.heap.size 5 Try.underlying24 info_u8 A12 n10 c12 _ rfl (ho12.mono T11.size) A2 n2 c2 p.dat rfl (x2.below T12) T12 (by omega) (by first | exact Nat.le_refl _ | exact Below.size T12 | omega | (simp <;> omega)) ?_; intro A13 n13 c13 w13 ho13 hB13 _ hz13))
    have hl : ldR p = L4 := by unfold ldR; rw [x1.len, hm, HY.out, HL4.out]
    have hh : hdR p = put32 (put32 (put16 (put16 L5 2 z) 4 p.id) 12 p.src) 16 p.dst ++ p.opt := by unfold hdR; rw [hkp, hl, x1.len, x2.len, hm, hz, if_pos rfl, HL5.out]
    refine bodyPost_ret (v := .tuple #[.slice A13 n13 c13, .int .i64 0]) (by simp [results, Try.results33, go_sem]) rfl ⟨A13, n13, c13, rfl, ?_, below_then R1 hB13⟩
    have hf := ho13.mono R1.size
    unfold bdR
    rw [hh]
    exact hf
end Go.Proofs.Ytjjhnjkmoogloaa

namespace Go.Proofs.Ytjjhnjkmoogloaa
open Go.RowKit
set_option linter.unusedVariables false
set_option linter.unusedSimpArgs false
set_option maxHeartbeats 4000000
set_option maxRecDepth 100000

theorem build_form (p : Pkt) (A1 : Option Addr) (n1 c1 : Nat) (A2 : Option Addr) (n2 c2 : Nat) (w : World) (k1 : Bs w A1 n1 c1 p.opt) (k2 : Bs w A2 n2 c2 p.dat)
    (h1 : (n1 : Int) ≤ 40) (h2 : ((n1 : Int) % 4 != 0) = true) :
    Calls Try.prog 33 #[(.agg #[.int .u8 (p).tos, .int .u16 (p).id, .bool (p).keep, .int .u8 (p).ttl, .int .u8 (p).proto, .int .u32 (p).src, .int .u32 (p).dst, .slice A1 n1 c1, .slice A2 n2 c2])] w fun e w' => e = .returned (.tuple #[.slice none 0 0, .int .i64 4]) ∧ Below w.heap.size w w' := by
  have b1 := k1.max
  have b2 := k2.max
  go_enter Try.func33, Try.ntmps33
  go_wp2_with fail
  refine bodyPost_ret (v := .tuple #[.slice none 0 0, .int .i64 4]) (by simp [results, Try.results33, go_sem]) rfl ⟨rfl, by (repeat (first | with_reducible exact Below.refl _ _ | with_reducible refine below_drew ?_ | with_reducible refine below_drewN ?_ _ | with_reducible refine below_alloc ?_ (Nat.le_refl _) _ | with_reducible refine Below.setCell ?_ (by first | exact Nat.le_refl _ | (simp only []; omega)) _ | with_reducible assumption))⟩
theorem build_opt (p : Pkt) (A1 : Option Addr) (n1 c1 : Nat) (A2 : Option Addr) (n2 c2 : Nat) (w : World) (k1 : Bs w A1 n1 c1 p.opt) (k2 : Bs w A2 n2 c2 p.dat)
    (h1 : 40 < (n1 : Int)) :
    Calls Try.prog 33 #[(.agg #[.int .u8 (p).tos, .int .u16 (p).id, .bool (p).keep, .int .u8 (p).ttl, .int .u8 (p).proto, .int .u32 (p).src, .int .u32 (p).dst, .slice A1 n1 c1, .slice A2 n2 c2])] w fun e w' => e = .returned (.tuple #[.slice none 0 0, .int .i64 4]) ∧ Below w.heap.size w w' := by
  have b1 := k1.max
  have b2 := k2.max
  go_enter Try.func33, Try.ntmps33
  go_wp2_with fail
  refine bodyPost_ret (v := .tuple #[.slice none 0 0, .int .i64 4]) (by simp [results, Try.results33, go_sem]) rfl ⟨rfl, by (repeat (first | with_reducible exact Below.refl _ _ | with_reducible refine below_drew ?_ | with_reducible refine below_drewN ?_ _ | with_reducible refine below_alloc ?_ (Nat.le_refl _) _ | with_reducible refine Below.setCell ?_ (by first | exact Nat.le_refl _ | (simp only []; omega)) _ | with_reducible assumption))⟩
theorem build_long (p : Pkt) (A1 : Option Addr) (n1 c1 : Nat) (A2 : Option Addr) (n2 c2 : Nat) (w : World) (k1 : Bs w A1 n1 c1 p.opt) (k2 : Bs w A2 n2 c2 p.dat)
    (h1 : (n1 : Int) ≤ 40) (h2 : ((n1 : Int) % 4 != 0) = false) (h3 : 65535 < 20 + (n1 : Int) + n2) :
    Calls Try.prog 33 #[(.agg #[.int .u8 (p).tos, .int .u16 (p).id, .bool (p).keep, .int .u8 (p).ttl, .int .u8 (p).proto, .int .u32 (p).src, .int .u32 (p).dst, .slice A1 n1 c1, .slice A2 n2 c2])] w fun e w' => e = .returned (.tuple #[.slice none 0 0, .int .i64 8]) ∧ Below w.heap.size w w' := by
  have b1 := k1.max
  have b2 := k2.max
  go_enter Try.func33, Try.ntmps33
  go_wp2_with fail
  refine bodyPost_ret (v := .tuple #[.slice none 0 0, .int .i64 8]) (by simp [results, Try.results33, go_sem]) rfl ⟨rfl, by (repeat (first | with_reducible exact Below.refl _ _ | with_reducible refine below_drew ?_ | with_reducible refine below_drewN ?_ _ | with_reducible refine below_alloc ?_ (Nat.le_refl _) _ | with_reducible refine Below.setCell ?_ (by first | exact Nat.le_refl _ | (simp only []; omega)) _ | with_reducible assumption))⟩
end Go.Proofs.Ytjjhnjkmoogloaa

namespace Go.Proofs.Ytjjhnjkmoogloaa
open Go.RowKit
set_option linter.unusedVariables false
set_option linter.unusedSimpArgs false

/-- The document's header. -/
def hdL (p : Pkt) : List UInt8 := [ub (64 + (20 + (p.opt.length : Int)) / 4), ub p.tos] ++ two (20 + (p.opt.length : Int) + (p.dat.length : Int)) ++ two p.id ++ [if p.keep = true then 64 else 0, 0, ub p.ttl, ub p.proto, 0, 0] ++ four p.src ++ four p.dst ++ p.opt
theorem hdR_eq (p : Pkt) : hdR p = hdL p := by
  unfold hdR hdL ldR
  cases p.keep <;> simp [put16, put32, putK, zs, two, four, List.replicate, ub]
end Go.Proofs.Ytjjhnjkmoogloaa

namespace Go.Proofs.Ytjjhnjkmoogloaa
open Go.RowKit
set_option linter.unusedVariables false
set_option linter.unusedSimpArgs false
set_option maxHeartbeats 4000000
set_option maxRecDepth 100000

end Go.Proofs.Ytjjhnjkmoogloaa

namespace Go.Proofs.Ytjjhnjkmoogloaa
open Go.RowKit
set_option linter.unusedVariables false
set_option linter.unusedSimpArgs false
set_option maxHeartbeats 8000000
set_option maxRecDepth 100000

theorem rdPost_no {w w' : World} {q : Bool} {l : List UInt8} (x : Int) (hE : rdE q l = x) (hx : x ≠ 0) (hB : Below w.heap.size w w') :
    RdPost w q l (.returned (.tuple #[.agg #[.int .u8 0, .int .u16 0, .bool false, .int .u8 0, .int .u8 0, .int .u32 0, .int .u32 0, .slice none 0 0, .slice none 0 0], .int .i64 x])) w' := by
  have hR : rdPk q l = zP := by unfold rdPk; rw [if_neg (by omega)]
  exact ⟨none, 0, 0, none, 0, 0, by rw [hR, hE]; rfl, by rw [hR]; exact Bs.none_ _, by rw [hR]; exact Bs.none_ _, fun x e => (by cases e), fun x e => (by cases e), hB⟩
end Go.Proofs.Ytjjhnjkmoogloaa

namespace Go.Proofs.Ytjjhnjkmoogloaa
open Go.RowKit
set_option linter.unusedVariables false
set_option linter.unusedSimpArgs false
set_option linter.unusedSimpArgs false
set_option maxHeartbeats 8000000
set_option maxRecDepth 100000

/-- A new block of a packet's cells. -/
def isP (B : Nat) : World → Value → Prop := fun W v => ∃ g, v = .pointer (some ⟨g, 0, none⟩) ∧ B ≤ g ∧ Blk W g #[.int .u8 0, .int .u16 0, .bool false, .int .u8 0, .int .u8 0, .int .u32 0, .int .u32 0, .slice none 0 0, .slice none 0 0] 26
theorem st_isP {B : Nat} : ∀ w w' v, isP B w v → Below w.heap.size w w' → isP B w' v := fun _ _ _ ⟨g, e, h, k⟩ hb => ⟨g, e, h, k.below hb⟩
theorem goes_isP {B : Nat} {W : World} (h : B ≤ W.heap.size) : OpGoes Try.prog (fun v w' => (Kd.p (isP B)).holds w' v ∧ Below W.heap.size W w') (.ok (.value (.pointer (some ⟨W.heap.size, 0, none⟩))) (W.alloc (.cells #[.int .u8 0, .int .u16 0, .bool false, .int .u8 0, .int .u8 0, .int .u32 0, .int .u32 0, .slice none 0 0, .slice none 0 0] 26))) :=
  ⟨⟨_, rfl, h, blk_new W _ _ _ rfl⟩, (Below.refl _ W).alloc (Nat.le_refl _) _⟩
end Go.Proofs.Ytjjhnjkmoogloaa

namespace Go.Proofs.Ytjjhnjkmoogloaa
open Go.RowKit
set_option linter.unusedVariables false
set_option linter.unusedSimpArgs false
set_option maxHeartbeats 4000000
set_option maxRecDepth 100000

end Go.Proofs.Ytjjhnjkmoogloaa

namespace Go.Proofs.Ytjjhnjkmoogloaa
open Go.RowKit
set_option linter.unusedVariables false
set_option linter.unusedSimpArgs false
set_option linter.unusedSimpArgs false
set_option maxHeartbeats 4000000
set_option maxRecDepth 100000

def hdE (p : Pkt) (all : Int) : List UInt8 := [ub (69 + (p.opt.length : Int) / 4), ub p.tos] ++ two all ++ two p.id ++ [ub (if p.keep = true then 64 else 0), ub 0] ++ [ub p.ttl, ub p.proto, ub 0, ub 0] ++ four p.src ++ four p.dst ++ p.opt
end Go.Proofs.Ytjjhnjkmoogloaa

/- Plain laws of packets' bytes: what is built is read back; what is cut or changed is told. -/
namespace Go.Proofs.Ytjjhnjkmoogloaa
open Go.RowKit
set_option linter.unusedVariables false
set_option maxRecDepth 100000

def bdL (p : Pkt) : List UInt8 := if bdE p = 0 then put16 (hdL p) 10 (csum (hdL p)) ++ p.dat else []
theorem bdE_zero {p : Pkt} (h : bdE p = 0) : p.opt.length ≤ 40 ∧ p.opt.length % 4 = 0 ∧ 20 + p.opt.length + p.dat.length ≤ 65535 := by
  unfold bdE at h
  split at h
  · omega
  · split at h <;> omega
theorem bdE_zero_iff (p : Pkt) : bdE p = 0 ↔ rightP p = true := by
  unfold bdE rightP
  split
  · simp; omega
  · split
    · simp; omega
    · simp; omega
/-- A header's 20 bytes with the check sum c. -/
def hx (p : Pkt) (c : Int) : List UInt8 := [ub (64 + (20 + (p.opt.length : Int)) / 4), ub p.tos, ub ((20 + (p.opt.length : Int) + (p.dat.length : Int)) / 256), ub (20 + (p.opt.length : Int) + (p.dat.length : Int)), ub (p.id / 256), ub p.id, if p.keep = true then 64 else 0, 0, ub p.ttl, ub p.proto, ub (c / 256), ub c, ub (p.src / 16777216), ub (p.src / 65536), ub (p.src / 256), ub p.src, ub (p.dst / 16777216), ub (p.dst / 65536), ub (p.dst / 256), ub p.dst]
theorem hx_len (p : Pkt) (c : Int) : (hx p c).length = 20 := rfl
theorem hdL_hx (p : Pkt) : hdL p = hx p 0 ++ p.opt := by
  have e0 : ub 0 = 0 := by decide
  unfold hdL hx
  simp [two, four, e0]
theorem hx_put (p : Pkt) (c d : Int) : put16 (hx p c) ((10 : Nat) : Int) d = hx p d := by
  rw [put16_eq (by rw [hx_len]; omega)]
  simp [hx]
theorem hdL_put (p : Pkt) (c : Int) : put16 (hdL p) 10 c = hx p c ++ p.opt := by
  rw [hdL_hx, show (10 : Int) = ((10 : Nat) : Int) from rfl, put16_append (by rw [hx_len]; omega), hx_put]
theorem hdL_len (p : Pkt) : (hdL p).length = 20 + p.opt.length := by rw [hdL_hx, List.length_append, hx_len]
theorem good_hd (p : Pkt) : csum (hx p (csum (hdL p)) ++ p.opt) = 0 := by
  rw [← hdL_put]
  refine good_put (j := 5) (z := hdL p) (by rw [hdL_len]; omega) ?_
  rw [hdL_hx]
  rfl
theorem bdL_form {p : Pkt} (h : bdE p = 0) : bdL p = hx p (csum (hdL p)) ++ (p.opt ++ p.dat) := by
  unfold bdL; rw [if_pos h, hdL_put, List.append_assoc]
theorem bdL_len {p : Pkt} (h : bdE p = 0) : (bdL p).length = 20 + p.opt.length + p.dat.length := by
  rw [bdL_form h]; simp [hx_len]; omega
theorem bdL_bad {p : Pkt} (h : bdE p ≠ 0) : bdL p = [] := by unfold bdL; rw [if_neg h]
/-- What bytes that begin so say. -/
theorem hx_at {p : Pkt} (hp : p.Ok) {c : Int} (c0 : 0 ≤ c) (c1 : c ≤ 65535) (r : List UInt8) (hn : p.opt.length ≤ 40) (hz : 20 + p.opt.length + p.dat.length ≤ 65535) :
    bt (hx p c ++ r) 0 = 69 + (p.opt.length : Int) / 4 ∧ bt (hx p c ++ r) 1 = p.tos ∧ get16 (hx p c ++ r) 2 = 20 + (p.opt.length : Int) + (p.dat.length : Int) ∧ get16 (hx p c ++ r) 4 = p.id ∧
    get16 (hx p c ++ r) 6 = (if p.keep = true then 16384 else 0) ∧ bt (hx p c ++ r) 8 = p.ttl ∧ bt (hx p c ++ r) 9 = p.proto ∧ get16 (hx p c ++ r) 10 = c ∧ get32 (hx p c ++ r) 12 = p.src ∧ get32 (hx p c ++ r) 16 = p.dst := by
  obtain ⟨⟨o1, o1'⟩, ⟨o2, o2'⟩, ⟨o3, o3'⟩, ⟨o4, o4'⟩, ⟨o5, o5'⟩, ⟨o6, o6'⟩⟩ := hp
  have hl : (hx p c ++ r).length = 20 + r.length := by rw [List.length_append, hx_len]
  refine ⟨?_, ?_, ?_, ?_, ?_, ?_, ?_, ?_, ?_, ?_⟩
  · show ((ub _).toNat : Int) = _
    rw [ub_val]; omega
  · show ((ub _).toNat : Int) = _
    rw [ub_val]; omega
  · rw [get16_in (by omega) (by omega)]
    show ((ub _).toNat : Int) * 256 + ((ub _).toNat : Int) = _
    rw [ub_val, ub_val]; omega
  · rw [get16_in (by omega) (by omega)]
    show ((ub _).toNat : Int) * 256 + ((ub _).toNat : Int) = _
    rw [ub_val, ub_val]; omega
  · rw [get16_in (by omega) (by omega)]
    show (((if p.keep = true then (64 : UInt8) else 0)).toNat : Int) * 256 + (((0 : UInt8)).toNat : Int) = _
    cases p.keep <;> rfl
  · show ((ub _).toNat : Int) = _
    rw [ub_val]; omega
  · show ((ub _).toNat : Int) = _
    rw [ub_val]; omega
  · rw [get16_in (by omega) (by omega)]
    show ((ub _).toNat : Int) * 256 + ((ub _).toNat : Int) = _
    rw [ub_val, ub_val]; omega
  · rw [get32_in (by omega) (by omega), get16_in (by omega) (by omega), get16_in (by omega) (by omega)]
    show (((ub _).toNat : Int) * 256 + ((ub _).toNat : Int)) * 65536 + (((ub _).toNat : Int) * 256 + ((ub _).toNat : Int)) = _
    rw [ub_val, ub_val, ub_val, ub_val]; omega
  · rw [get32_in (by omega) (by omega), get16_in (by omega) (by omega), get16_in (by omega) (by omega)]
    show (((ub _).toNat : Int) * 256 + ((ub _).toNat : Int)) * 65536 + (((ub _).toNat : Int) * 256 + ((ub _).toNat : Int)) = _
    rw [ub_val, ub_val, ub_val, ub_val]; omega
/-- Bytes with good lengths and a good sum. -/
theorem rd_good {l : List UInt8} {n d : Nat} (q : Bool) (hn : n ≤ 40) (h4 : n % 4 = 0) (hd : 20 + n + d ≤ l.length) (h0 : bt l 0 = 69 + (n : Int) / 4) (h2 : get16 l 2 = 20 + (n : Int) + (d : Int)) (hs : csum (l.take (20 + n)) = 0) :
    hdOf l = 20 + n ∧ alOf l = 20 + n + d ∧ rdE q l = (if get16 l 6 % 16384 ≠ 0 then 7 else if 32768 ≤ get16 l 6 then 4 else if q = true ∧ d < 8 then 3 else 0) := by
  have e1 : hdOf l = 20 + n := by unfold hdOf; omega
  have e2 : alOf l = 20 + n + d := by unfold alOf; rw [h2, if_neg (by omega)]
  have e3 : lenE q l = 0 := by
    unfold lenE
    rw [e1, h2, if_neg (by omega), if_neg (by omega), if_neg (by omega), if_neg (by omega), if_neg (by omega), if_neg (by rintro ⟨_, h⟩; omega)]
  refine ⟨e1, e2, ?_⟩
  unfold rdE
  rw [e3, e1, e2, show ((20 + (n : Int)).toNat) = 20 + n from by omega, hs, if_neg (by simp), if_neg (by simp)]
  have : (20 + (n : Int) + d - (20 + n) < 8) = (d < 8) := by rw [eq_iff_iff]; omega
  simp only [this]
theorem rd_form {p : Pkt} (hp : p.Ok) (h : bdE p = 0) {c : Int} (c0 : 0 ≤ c) (c1 : c ≤ 65535) (hs : csum (hx p c ++ p.opt) = 0) (m : List UInt8) :
    rdE false (hx p c ++ (p.opt ++ (p.dat ++ m))) = 0 ∧ rdP (hx p c ++ (p.opt ++ (p.dat ++ m))) = p ∧ (8 ≤ p.dat.length → rdE true (hx p c ++ (p.opt ++ (p.dat ++ m))) = 0) := by
  obtain ⟨n1, n2, n3⟩ := bdE_zero h
  obtain ⟨f0, f1, f2, f3, f4, f5, f6, f7, f8, f9⟩ := hx_at hp c0 c1 (p.opt ++ (p.dat ++ m)) n1 n3
  have t1 : (hx p c ++ (p.opt ++ (p.dat ++ m))).take (20 + p.opt.length) = hx p c ++ p.opt := by
    rw [← List.append_assoc]; exact List.take_left' (by rw [List.length_append, hx_len])
  have t2 : (hx p c ++ (p.opt ++ (p.dat ++ m))).take (20 + p.opt.length + p.dat.length) = hx p c ++ p.opt ++ p.dat := by
    rw [← List.append_assoc, ← List.append_assoc]; exact List.take_left' (by rw [List.length_append, List.length_append, hx_len])
  have hl : 20 + p.opt.length + p.dat.length ≤ (hx p c ++ (p.opt ++ (p.dat ++ m))).length := by simp [hx_len]; omega
  have k6 : ¬ (get16 (hx p c ++ (p.opt ++ (p.dat ++ m))) 6 % 16384 ≠ 0) ∧ ¬ (32768 ≤ get16 (hx p c ++ (p.opt ++ (p.dat ++ m))) 6) ∧ (get16 (hx p c ++ (p.opt ++ (p.dat ++ m))) 6 != 0) = p.keep := by
    rw [f4]; cases p.keep <;> decide
  have e := fun q => rd_good (l := hx p c ++ (p.opt ++ (p.dat ++ m))) q n1 n2 hl f0 f2 (by rw [t1]; exact hs)
  refine ⟨?_, ?_, fun h8 => ?_⟩
  · rw [(e false).2.2, if_neg k6.1, if_neg k6.2.1]; simp
  · have d1 : (20 + (p.opt.length : Int)).toNat = 20 + p.opt.length := by omega
    have d2 : (20 + (p.opt.length : Int) + (p.dat.length : Int)).toNat = 20 + p.opt.length + p.dat.length := by omega
    unfold rdP
    rw [(e false).1, (e false).2.1, d1, d2, t1, t2, f1, f3, k6.2.2, f5, f6, f8, f9, List.drop_left' (hx_len p c), List.drop_left' (by rw [List.length_append, hx_len])]
  · rw [(e true).2.2, if_neg k6.1, if_neg k6.2.1, if_neg (by omega)]
theorem rd_back {p : Pkt} (hp : p.Ok) (h : bdE p = 0) (m : List UInt8) : rdE false (bdL p ++ m) = 0 ∧ rdP (bdL p ++ m) = p ∧ (8 ≤ p.dat.length → rdE true (bdL p ++ m) = 0) := by
  rw [bdL_form h, List.append_assoc, List.append_assoc]
  exact rd_form hp h (csum_lo _) (csum_hi _) (good_hd p) m
theorem rdPk_back {p : Pkt} (hp : p.Ok) (h : bdE p = 0) (m : List UInt8) : rdPk false (bdL p ++ m) = p := by
  unfold rdPk; rw [if_pos (rd_back hp h m).1, (rd_back hp h m).2.1]

/-! ### Changed bytes -/
theorem flip_told {p : Pkt} (hp : p.Ok) (h : bdE p = 0) {j : Nat} {x : Int} (x0 : 0 ≤ x) (x1 : x ≤ 255) (hj : j < 20 + p.opt.length) (hx : x ≠ bt (bdL p) j) (hv : j = 0 → x / 16 ≠ 4) :
    rdE false ((bdL p).set j (ub x)) ≠ 0 := by
  intro hE
  obtain ⟨n1, n2, n3⟩ := bdE_zero h
  have hlen := bdL_len h
  have f0 := (hx_at hp (csum_lo (hdL p)) (csum_hi (hdL p)) (p.opt ++ p.dat) n1 n3).1
  rw [← bdL_form h] at f0
  have ux := ub_val x
  unfold rdE at hE
  split at hE
  · rename_i h1; exact h1 hE
  · rename_i h1
    obtain ⟨g1, g2, g3, g4, -⟩ := len_facts (Decidable.not_not.1 h1)
    rw [bt_set] at g2
    by_cases e : j = 0
    · subst e
      rw [if_pos ⟨rfl, by omega⟩] at g2
      exact hv rfl (by omega)
    · have e1 : hdOf ((bdL p).set j (ub x)) = 20 + p.opt.length := by unfold hdOf; rw [bt_set, if_neg (by omega), f0]; omega
      rw [e1, show ((20 + (p.opt.length : Int)).toNat) = 20 + p.opt.length from by omega, List.take_set] at hE
      rw [if_pos] at hE
      · omega
      · refine csum_flip (by rw [List.length_take]; omega) (by rw [bt_take (by omega)]; omega) ?_
        rw [bdL_form h, ← List.append_assoc, List.take_left' (by rw [List.length_append, hx_len])]
        exact good_hd p
theorem cut_told {p : Pkt} (hp : p.Ok) (h : bdE p = 0) {k : Nat} (hk : k < (bdL p).length) : rdE false ((bdL p).take k) = 3 := by
  obtain ⟨n1, n2, n3⟩ := bdE_zero h
  have hlen := bdL_len h
  obtain ⟨f0, -, f2, -⟩ := hx_at hp (csum_lo (hdL p)) (csum_hi (hdL p)) (p.opt ++ p.dat) n1 n3
  rw [← bdL_form h] at f0 f2
  have hl : ((bdL p).take k).length = k := by rw [List.length_take]; omega
  have e : lenE false ((bdL p).take k) = 3 := by
    unfold lenE
    rw [hl]
    by_cases k1 : (k : Int) < 20
    · rw [if_pos k1]
    · rw [if_neg k1, if_neg (by rw [bt_take (by omega), f0]; omega)]
      have e1 : hdOf ((bdL p).take k) = 20 + p.opt.length := by unfold hdOf; rw [bt_take (by omega), f0]; omega
      rw [e1, if_neg (by omega)]
      by_cases k2 : (k : Int) < 20 + p.opt.length
      · rw [if_pos k2]
      · have e2 : get16 ((bdL p).take k) 2 = 20 + (p.opt.length : Int) + p.dat.length := by rw [← f2]; exact get16_take (i := 2) (by omega) (by omega)
        rw [if_neg k2, e2, if_neg (by omega), if_pos ⟨rfl, by omega⟩]
  unfold rdE
  rw [e]; rfl
/-- Bytes with other bits in the header's third word, and their sum. -/
def fixL (l : List UInt8) (b : Int) (h : Nat) : List UInt8 := put16 (put16 (put16 l 6 b) 10 0) 10 (csum ((put16 (put16 l 6 b) 10 0).take h))
theorem fix_told {p : Pkt} (hp : p.Ok) (h : bdE p = 0) {b : Int} (b0 : 0 ≤ b) (b1 : b ≤ 65535) :
    get16 (fixL (bdL p) b (20 + p.opt.length)) 6 = b ∧ rdE false (fixL (bdL p) b (20 + p.opt.length)) = (if b % 16384 ≠ 0 then 7 else if 32768 ≤ b then 4 else 0) := by
  obtain ⟨n1, n2, n3⟩ := bdE_zero h
  have hlen := bdL_len h
  obtain ⟨f0, -, f2, -⟩ := hx_at hp (csum_lo (hdL p)) (csum_hi (hdL p)) (p.opt ++ p.dat) n1 n3
  rw [← bdL_form h] at f0 f2
  have c6 : (6 : Int) = ((6 : Nat) : Int) := rfl
  have c10 : (10 : Int) = ((10 : Nat) : Int) := rfl
  have c2 : (2 : Int) = ((2 : Nat) : Int) := rfl
  have g6 : get16 (fixL (bdL p) b (20 + p.opt.length)) 6 = b := by
    unfold fixL
    rw [c6, c10, get16_put16_far (by simp only [put16_length]; omega) (by simp only [put16_length]; omega) (by omega), get16_put16_far (by simp only [put16_length]; omega) (by simp only [put16_length]; omega) (by omega), get16_put16 b0 b1 (by omega)]
  have g2 : get16 (fixL (bdL p) b (20 + p.opt.length)) 2 = 20 + (p.opt.length : Int) + (p.dat.length : Int) := by
    unfold fixL
    rw [c2, c6, c10, get16_put16_far (by simp only [put16_length]; omega) (by simp only [put16_length]; omega) (by omega), get16_put16_far (by simp only [put16_length]; omega) (by simp only [put16_length]; omega) (by omega), get16_put16_far (by omega) (by omega) (by omega)]
    exact f2
  have g0 : bt (fixL (bdL p) b (20 + p.opt.length)) 0 = 69 + (p.opt.length : Int) / 4 := by
    unfold fixL
    rw [c6, c10, bt_put16 (by simp only [put16_length]; omega), bt_put16 (by simp only [put16_length]; omega), bt_put16 (by omega)]
    simpa using f0
  have hl : (fixL (bdL p) b (20 + p.opt.length)).length = (bdL p).length := by unfold fixL; simp only [put16_length]
  have e := rd_good (l := fixL (bdL p) b (20 + p.opt.length)) (d := p.dat.length) false n1 n2 (by omega) g0 g2 (by
    unfold fixL
    generalize hz : put16 (put16 (bdL p) 6 b) 10 0 = z
    have zl : z.length = (bdL p).length := by rw [← hz]; simp only [put16_length]
    rw [c10, put16_take (by omega) (by omega)]
    refine good_put (j := 5) (by rw [List.length_take]; omega) ?_
    have z5 : wd z 5 = 0 := by rw [← hz]; exact wd_put16_same (j := 5) (by omega) (by omega) (by rw [put16_length]; omega)
    unfold wd at z5 ⊢
    rw [bt_take (by omega), bt_take (by omega)]
    exact z5)
  refine ⟨g6, ?_⟩
  rw [e.2.2, g6]
  simp
theorem hops_told {p : Pkt} (hp : p.Ok) (h : bdE p = 0) (ht : p.ttl ≠ 0) :
    get16 (bdL p) 8 = p.ttl * 256 + p.proto ∧
    rdE false (put16 (put16 (bdL p) 8 (p.ttl * 256 + p.proto - 256)) 10 (patch (get16 (bdL p) 10) (p.ttl * 256 + p.proto) (p.ttl * 256 + p.proto - 256))) = 0 ∧
    rdP (put16 (put16 (bdL p) 8 (p.ttl * 256 + p.proto - 256)) 10 (patch (get16 (bdL p) 10) (p.ttl * 256 + p.proto) (p.ttl * 256 + p.proto - 256))) = { p with ttl := p.ttl - 1 } := by
  obtain ⟨n1, n2, n3⟩ := bdE_zero h
  obtain ⟨⟨o1, o1'⟩, ⟨o2, o2'⟩, ⟨o3, o3'⟩, ⟨o4, o4'⟩, ⟨o5, o5'⟩, ⟨o6, o6'⟩⟩ := id hp
  obtain ⟨-, -, -, -, -, f5, f6, f7, -⟩ := hx_at hp (csum_lo (hdL p)) (csum_hi (hdL p)) (p.opt ++ p.dat) n1 n3
  have c8 : (8 : Int) = ((8 : Nat) : Int) := rfl
  have c10 : (10 : Int) = ((10 : Nat) : Int) := rfl
  obtain ⟨v, hv⟩ : ∃ v, p.ttl * 256 + p.proto - 256 = v := ⟨_, rfl⟩
  have v0 : 0 ≤ v := by omega
  have v1 : v ≤ 65535 := by omega
  rw [hv, bdL_form h, f7]
  have g8 : get16 (hx p (csum (hdL p)) ++ (p.opt ++ p.dat)) 8 = p.ttl * 256 + p.proto := by
    rw [get16_in (by omega) (by simp [hx_len]; omega), ← f5, ← f6]
    rfl
  refine ⟨g8, ?_⟩
  obtain ⟨t, hT⟩ : ∃ t, patch (csum (hdL p)) (p.ttl * 256 + p.proto) v = t := ⟨_, rfl⟩
  rw [hT]
  have t0 : 0 ≤ t ∧ t ≤ 65535 := by rw [← hT]; unfold patch; have := fd_lo ((65535 - csum (hdL p)) + (65535 - (p.ttl * 256 + p.proto)) + v); have := fd_hi ((65535 - csum (hdL p)) + (65535 - (p.ttl * 256 + p.proto)) + v); omega
  have hput : ∀ c, put16 (hx p c) ((8 : Nat) : Int) v = hx { p with ttl := p.ttl - 1 } c := by
    intro c
    have u1 : ub (v / 256) = ub (p.ttl - 1) := by rw [← hv]; unfold ub; congr 2; omega
    have u2 : ub v = ub p.proto := by rw [← hv]; unfold ub; congr 2; omega
    rw [put16_eq (by rw [hx_len]; omega), u1, u2]
    simp [hx]
  have e1 : put16 (put16 (hx p (csum (hdL p)) ++ (p.opt ++ p.dat)) 8 v) 10 t = hx { p with ttl := p.ttl - 1 } t ++ (p.opt ++ (p.dat ++ [])) := by
    rw [c8, c10, put16_append (by rw [hx_len]; omega), hput, put16_append (by rw [hx_len]; omega), hx_put, List.append_nil]
  have hs : csum (hx { p with ttl := p.ttl - 1 } t ++ p.opt) = 0 := by
    have w4 : wd (hdL p) 4 = p.ttl * 256 + p.proto := by
      rw [hdL_hx]
      unfold wd
      show ((ub p.ttl).toNat : Int) * 256 + ((ub p.proto).toNat : Int) = _
      rw [ub_val, ub_val]; omega
    have e2 : put16 (put16 (put16 (hdL p) (2 * 5 : Nat) (csum (hdL p))) (2 * 4 : Nat) v) (2 * 5 : Nat) (patch (csum (hdL p)) (wd (hdL p) 4) v) = hx { p with ttl := p.ttl - 1 } t ++ p.opt := by
      rw [w4, hT]
      show put16 (put16 (put16 (hdL p) 10 _) ((8 : Nat) : Int) v) ((10 : Nat) : Int) t = _
      rw [hdL_put, put16_append (by rw [hx_len]; omega), hput, put16_append (by rw [hx_len]; omega), hx_put]
    rw [← e2]
    refine patched_good v0 v1 (by rw [hdL_len]; omega) (by rw [hdL_len]; omega) (by omega) (by rw [hdL_hx]; rfl) ⟨0, ?_⟩
    rw [e2]
    show ((ub _).toNat : Int) ≠ 0
    rw [ub_val]
    show (64 + (20 + (p.opt.length : Int)) / 4) % 256 ≠ 0
    omega
  rw [e1]
  have hp' : Pkt.Ok { p with ttl := p.ttl - 1 } := ⟨⟨o1, o1'⟩, ⟨o2, o2'⟩, ⟨by show 0 ≤ p.ttl - 1; omega, by show p.ttl - 1 ≤ 255; omega⟩, ⟨o4, o4'⟩, ⟨o5, o5'⟩, ⟨o6, o6'⟩⟩
  have hh := rd_form hp' (by exact h) t0.1 t0.2 hs []
  exact ⟨hh.1, hh.2.1⟩
/-- What is built of what bytes say are these bytes, but for the sum. -/
theorem bytes_back {l : List UInt8} (h : rdE false l = 0) : bdE (rdP l) = 0 ∧ (bdL (rdP l)).length ≤ l.length ∧ ∀ i, i < (bdL (rdP l)).length → i ≠ 10 → i ≠ 11 → bt (bdL (rdP l)) i = bt l i := by
  unfold rdE at h
  split at h
  · rename_i h1; exact absurd h h1
  rename_i hE
  split at h
  · omega
  split at h
  · omega
  rename_i h6
  split at h
  · omega
  rename_i h6'
  obtain ⟨g1, g2, g3, g4, g5, g6, g7, g8, g9⟩ := len_facts (Decidable.not_not.1 hE)
  have g9 := g9 rfl
  have ha : alOf l = get16 l 2 := by unfold alOf; rw [if_neg (by omega)]
  have hi16 := get16_hi l 2
  obtain ⟨H, hH⟩ : ∃ H : Nat, hdOf l = H := ⟨(hdOf l).toNat, by omega⟩
  obtain ⟨T, hT⟩ : ∃ T : Nat, get16 l 2 = T := ⟨(get16 l 2).toNat, by omega⟩
  have hol : (rdP l).opt = (l.take H).drop 20 := by show (l.take (hdOf l).toNat).drop 20 = _; rw [hH]; rfl
  have hdl : (rdP l).dat = (l.take T).drop H := by show (l.take (alOf l).toNat).drop (hdOf l).toNat = _; rw [hH, ha, hT]; rfl
  have hn : (rdP l).opt.length = H - 20 := by rw [hol, List.length_drop, List.length_take]; omega
  have hm : (rdP l).dat.length = T - H := by rw [hdl, List.length_drop, List.length_take]; omega
  have h4 : hdOf l % 4 = 0 := by unfold hdOf; omega
  have hb0 : bdE (rdP l) = 0 := by
    unfold bdE
    rw [hn, hm, if_neg (by omega), if_neg (by omega)]
  have hlen := bdL_len hb0
  rw [hn, hm] at hlen
  refine ⟨hb0, by omega, fun i hi n10 n11 => ?_⟩
  have hod : (rdP l).opt ++ (rdP l).dat = (l.take T).drop 20 := by
    rw [hol, hdl]
    have e1 : l.take T = l.take H ++ (l.take T).drop H := by
      conv => lhs; rw [← List.take_append_drop H (l.take T)]
      rw [List.take_take, Nat.min_eq_left (by omega)]
    conv => rhs; rw [e1]
    rw [List.drop_append_of_le_length (by rw [List.length_take]; omega)]
  rw [bdL_form hb0, hod]
  by_cases hi20 : 20 ≤ i
  · obtain ⟨k, rfl⟩ : ∃ k, i = 20 + k := ⟨i - 20, by omega⟩
    rw [show 20 + k = (hx (rdP l) (csum (hdL (rdP l)))).length + k from by rw [hx_len], bt_append_right, hx_len]
    unfold bt
    simp only [List.getD_eq_getElem?_getD, List.getElem?_drop]
    rw [List.getElem?_take, if_pos (by omega)]
  · have l0 := bt_lo l 0
    have l0' := bt_hi l 0
    have l1 := bt_lo l 1
    have l1' := bt_hi l 1
    have l8 := bt_lo l 8
    have l8' := bt_hi l 8
    have l9 := bt_lo l 9
    have l9' := bt_hi l 9
    have e2 : get16 l 2 = bt l 2 * 256 + bt l 3 := get16_in (by omega) (by omega)
    have e4 : get16 l 4 = bt l 4 * 256 + bt l 5 := get16_in (by omega) (by omega)
    have e6 : get16 l 6 = bt l 6 * 256 + bt l 7 := get16_in (by omega) (by omega)
    have e12 : get32 l 12 = (bt l 12 * 256 + bt l 13) * 65536 + (bt l 14 * 256 + bt l 15) := by rw [get32_in (by omega) (by omega), get16_in (by omega) (by omega), get16_in (by omega) (by omega)]; rfl
    have e16 : get32 l 16 = (bt l 16 * 256 + bt l 17) * 65536 + (bt l 18 * 256 + bt l 19) := by rw [get32_in (by omega) (by omega), get16_in (by omega) (by omega), get16_in (by omega) (by omega)]; rfl
    have bb : ∀ j, 0 ≤ bt l j ∧ bt l j ≤ 255 := fun j => ⟨bt_lo l j, bt_hi l j⟩
    have b2 := bb 2
    have b3 := bb 3
    have b4 := bb 4
    have b5 := bb 5
    have b6 := bb 6
    have b7 := bb 7
    have b12 := bb 12
    have b13 := bb 13
    have b14 := bb 14
    have b15 := bb 15
    have b16 := bb 16
    have b17 := bb 17
    have b18 := bb 18
    have b19 := bb 19
    have h0 : bt l 0 = 64 + bt l 0 % 16 := by omega
    have hh : hdOf l = 4 * (bt l 0 % 16) := rfl
    have hk : ((if (rdP l).keep = true then (64 : UInt8) else 0).toNat : Int) = bt l 6 ∧ bt l 7 = 0 := by
      show ((if (get16 l 6 != 0) = true then (64 : UInt8) else 0).toNat : Int) = _ ∧ _
      by_cases hz : get16 l 6 = 0
      · rw [if_neg (by simp [hz])]
        exact ⟨by show (0 : Int) = _; omega, by omega⟩
      · rw [if_pos (by simp [hz])]
        exact ⟨by show (64 : Int) = _; omega, by omega⟩
    have hc : i = 0 ∨ i = 1 ∨ i = 2 ∨ i = 3 ∨ i = 4 ∨ i = 5 ∨ i = 6 ∨ i = 7 ∨ i = 8 ∨ i = 9 ∨ i = 12 ∨ i = 13 ∨ i = 14 ∨ i = 15 ∨ i = 16 ∨ i = 17 ∨ i = 18 ∨ i = 19 := by omega
    rcases hc with rfl | rfl | rfl | rfl | rfl | rfl | rfl | rfl | rfl | rfl | rfl | rfl | rfl | rfl | rfl | rfl | rfl | rfl
    · show ((ub (64 + (20 + ((rdP l).opt.length : Int)) / 4)).toNat : Int) = _
      rw [ub_val, hn]; omega
    · show ((ub (bt l 1)).toNat : Int) = _
      rw [ub_val]; omega
    · show ((ub ((20 + ((rdP l).opt.length : Int) + ((rdP l).dat.length : Int)) / 256)).toNat : Int) = _
      rw [ub_val, hn, hm]; omega
    · show ((ub (20 + ((rdP l).opt.length : Int) + ((rdP l).dat.length : Int))).toNat : Int) = _
      rw [ub_val, hn, hm]; omega
    · show ((ub (get16 l 4 / 256)).toNat : Int) = _
      rw [ub_val]; omega
    · show ((ub (get16 l 4)).toNat : Int) = _
      rw [ub_val]; omega
    · exact hk.1
    · show (0 : Int) = _
      omega
    · show ((ub (bt l 8)).toNat : Int) = _
      rw [ub_val]; omega
    · show ((ub (bt l 9)).toNat : Int) = _
      rw [ub_val]; omega
    · show ((ub (get32 l 12 / 16777216)).toNat : Int) = _
      rw [ub_val]; omega
    · show ((ub (get32 l 12 / 65536)).toNat : Int) = _
      rw [ub_val]; omega
    · show ((ub (get32 l 12 / 256)).toNat : Int) = _
      rw [ub_val]; omega
    · show ((ub (get32 l 12)).toNat : Int) = _
      rw [ub_val]; omega
    · show ((ub (get32 l 16 / 16777216)).toNat : Int) = _
      rw [ub_val]; omega
    · show ((ub (get32 l 16 / 65536)).toNat : Int) = _
      rw [ub_val]; omega
    · show ((ub (get32 l 16 / 256)).toNat : Int) = _
      rw [ub_val]; omega
    · show ((ub (get32 l 16)).toNat : Int) = _
      rw [ub_val]; omega
end Go.Proofs.Ytjjhnjkmoogloaa

/- Build, the program's and the document's, by all cases. -/
namespace Go.Proofs.Ytjjhnjkmoogloaa
open Go.RowKit
set_option linter.unusedVariables false

theorem hdE_eq (p : Pkt) : hdE p (20 + (p.opt.length : Int) + (p.dat.length : Int)) = hdL p := by
  have e0 : ub 0 = 0 := by decide
  have e1 : (69 + (p.opt.length : Int) / 4) = 64 + (20 + (p.opt.length : Int)) / 4 := by omega
  have e2 : ub (if p.keep = true then 64 else 0) = if p.keep = true then 64 else 0 := by cases p.keep <;> decide
  unfold hdE hdL
  rw [e1, e2, e0]
  simp [two, four]
theorem bdE_ok {p : Pkt} {n1 n2 : Nat} (l1 : p.opt.length = n1) (l2 : p.dat.length = n2) (h1 : (n1 : Int) ≤ 40) (h2 : n1 % 4 = 0) (h3 : 20 + (n1 : Int) + n2 ≤ 65535) : bdE p = 0 := by
  unfold bdE; rw [l1, l2, if_neg (by omega), if_neg (by omega)]
theorem bdE_bad {p : Pkt} {n1 : Nat} (l1 : p.opt.length = n1) (h : 40 < (n1 : Int) ∨ n1 % 4 ≠ 0) : bdE p = 4 := by
  unfold bdE; rw [l1, if_pos (by omega)]
theorem bdE_big {p : Pkt} {n1 n2 : Nat} (l1 : p.opt.length = n1) (l2 : p.dat.length = n2) (h1 : (n1 : Int) ≤ 40) (h2 : n1 % 4 = 0) (h3 : 65535 < 20 + (n1 : Int) + n2) : bdE p = 8 := by
  unfold bdE; rw [l1, l2, if_neg (by omega), if_pos (by omega)]
theorem mod4_no {n : Nat} (h : n % 4 = 0) : ((n : Int) % 4 != 0) = false := by simp; omega
theorem mod4_yes {n : Nat} (h : n % 4 ≠ 0) : ((n : Int) % 4 != 0) = true := by simp; omega
theorem bd_any (p : Pkt) (hp : p.Ok) (A1 : Option Addr) (n1 c1 : Nat) (A2 : Option Addr) (n2 c2 : Nat) (w : World) (k1 : Bs w A1 n1 c1 p.opt) (k2 : Bs w A2 n2 c2 p.dat) :
    Calls Try.prog 33 #[(.agg #[.int .u8 (p).tos, .int .u16 (p).id, .bool (p).keep, .int .u8 (p).ttl, .int .u8 (p).proto, .int .u32 (p).src, .int .u32 (p).dst, .slice A1 n1 c1, .slice A2 n2 c2])] w fun e w' => ∃ A n c, e = .returned (.tuple #[.slice A n c, .int .i64 (bdE p)]) ∧ Own w' w.heap.size 5 A n c (bdL p) ∧ Below w.heap.size w w' := by
  have l1 := k1.len
  have l2 := k2.len
  by_cases h1 : (n1 : Int) ≤ 40
  · by_cases h2 : n1 % 4 = 0
    · by_cases h3 : 20 + (n1 : Int) + n2 ≤ 65535
      · have hE := bdE_ok l1 l2 h1 h2 h3
        refine (build_any p hp A1 n1 c1 A2 n2 c2 w k1 k2 h1 (mod4_no h2) h3).mono ?_
        rintro e w' ⟨A, n, c, rfl, ho, hB⟩
        exact ⟨A, n, c, by rw [hE], by unfold bdL; rw [if_pos hE, ← hdR_eq]; exact ho, hB⟩
      · have hE := bdE_big l1 l2 h1 h2 (by omega)
        refine (build_long p A1 n1 c1 A2 n2 c2 w k1 k2 h1 (mod4_no h2) (by omega)).mono ?_
        rintro e w' ⟨rfl, hB⟩
        exact ⟨none, 0, 0, by rw [hE], by rw [bdL_bad (by rw [hE]; decide)]; exact own_nil _ _ _, hB⟩
    · have hE := bdE_bad l1 (Or.inr h2)
      refine (build_form p A1 n1 c1 A2 n2 c2 w k1 k2 h1 (mod4_yes h2)).mono ?_
      rintro e w' ⟨rfl, hB⟩
      exact ⟨none, 0, 0, by rw [hE], by rw [bdL_bad (by rw [hE]; decide)]; exact own_nil _ _ _, hB⟩
  · have hE := bdE_bad l1 (Or.inl (by omega))
    refine (build_opt p A1 n1 c1 A2 n2 c2 w k1 k2 (by omega)).mono ?_
    rintro e w' ⟨rfl, hB⟩
    exact ⟨none, 0, 0, by rw [hE], by rw [bdL_bad (by rw [hE]; decide)]; exact own_nil _ _ _, hB⟩
end Go.Proofs.Ytjjhnjkmoogloaa

/- Parse and Quote, what they answer laid under names. -/
namespace Go.Proofs.Ytjjhnjkmoogloaa
open Go.RowKit
set_option linter.unusedVariables false
set_option linter.unusedSimpArgs false
set_option maxHeartbeats 4000000
set_option maxRecDepth 100000

theorem ipParse_v {l : List UInt8} {P : Pkt} {E : Int} (hP : rdPk false l = P) (hE : rdE false l = E) (A : Option Addr) (n c : Nat) (w : World) (hb : Bs w A n c l) :
    Calls Try.prog 34 #[.slice A n c] w fun e w' => ∃ A1 n1 c1 A2 n2 c2, e = .returned (.tuple #[(.agg #[.int .u8 (P).tos, .int .u16 (P).id, .bool (P).keep, .int .u8 (P).ttl, .int .u8 (P).proto, .int .u32 (P).src, .int .u32 (P).dst, .slice A1 n1 c1, .slice A2 n2 c2]), .int .i64 E]) ∧ Bs w' A1 n1 c1 P.opt ∧ Bs w' A2 n2 c2 P.dat ∧ Below w.heap.size w w' := by
  refine (ipParse_any A n c l w hb).mono ?_
  intro e w' hQ
  obtain ⟨A1, n1, c1, A2, n2, c2, rfl, k1, k2, a1, a2, T⟩ := hQ.out
  rw [hP] at k1 k2 ⊢
  rw [hE]
  exact ⟨A1, n1, c1, A2, n2, c2, rfl, k1, k2, T⟩
theorem ipParse_w {l : List UInt8} {P : Pkt} {E : Int} (hP : rdPk false l = P) (hE : rdE false l = E) (A : Option Addr) (n c : Nat) (w : World) (hb : Bs w A n c l) :
    Calls Try.prog 34 #[.slice A n c] w fun e w' => ∃ A1 n1 c1 A2 n2 c2, e = .returned (.tuple #[(.agg #[.int .u8 (P).tos, .int .u16 (P).id, .bool (P).keep, .int .u8 (P).ttl, .int .u8 (P).proto, .int .u32 (P).src, .int .u32 (P).dst, .slice A1 n1 c1, .slice A2 n2 c2]), .int .i64 E]) ∧ Bs w' A1 n1 c1 P.opt ∧ Bs w' A2 n2 c2 P.dat ∧ (∀ a, A1 = some a → w.heap.size ≤ a.block) ∧ (∀ a, A2 = some a → w.heap.size ≤ a.block) ∧ Below w.heap.size w w' := by
  refine (ipParse_any A n c l w hb).mono ?_
  intro e w' hQ
  obtain ⟨A1, n1, c1, A2, n2, c2, rfl, k1, k2, a1, a2, T⟩ := hQ.out
  rw [hP] at k1 k2 ⊢
  rw [hE]
  exact ⟨A1, n1, c1, A2, n2, c2, rfl, k1, k2, a1, a2, T⟩
theorem rsame_zero (p : Pkt) (A1 : Option Addr) (n1 c1 : Nat) (A2 : Option Addr) (n2 c2 : Nat) (w : World) (k1 : Bs w A1 n1 c1 p.opt) (k2 : Bs w A2 n2 c2 p.dat) :
    Calls Try.prog 22 #[(.agg #[.int .u8 (p).tos, .int .u16 (p).id, .bool (p).keep, .int .u8 (p).ttl, .int .u8 (p).proto, .int .u32 (p).src, .int .u32 (p).dst, .slice A1 n1 c1, .slice A2 n2 c2]), .agg #[.int .u8 0, .int .u16 0, .bool false, .int .u8 0, .int .u8 0, .int .u32 0, .int .u32 0, .slice none 0 0, .slice none 0 0]] w fun e w' => e = .returned (.bool (sameP p zP)) ∧ Below w.heap.size w w' :=
  rsame_any p zP A1 n1 c1 A2 n2 c2 none 0 0 none 0 0 w k1 k2 (Bs.none_ _) (Bs.none_ _)
theorem rdPk_bad {q : Bool} {l : List UInt8} (h : rdE q l ≠ 0) : rdPk q l = zP := by unfold rdPk; rw [if_neg h]
end Go.Proofs.Ytjjhnjkmoogloaa

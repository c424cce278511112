/- law02.fixed: a header with other bits, and its check sum. -/
import Derived.Test.YtkjhickjgncheaaIpV
import Derived.BigQuiet
namespace Go.Proofs.Ytkjhickjgncheaa
open Go.RowKit
set_option linter.unusedVariables false
set_option linter.unusedSimpArgs false
set_option maxHeartbeats 4000000
set_option maxRecDepth 100000

theorem wsK_take {l : List UInt8} {k m : Nat} (h : 2 * k ≤ m) : wsK (l.take m) k = wsK l k :=
  wsK_congr fun i hi => by unfold wd; rw [bt_take (by omega), bt_take (by omega)]
theorem fixed_any (A : Option Addr) (n c : Nat) (l : List UInt8) (K : Nat) (h0 : 10 ≤ K) (h2 : 2 * K ≤ n) (h3 : K ≤ 30) (b : Int) (b0 : 0 ≤ b) (b1 : b ≤ 65535) (H : Int) (hH : H = 2 * (K : Int)) (w : World) (hb : Bs w A n c l) :
    Calls Try.prog 25 #[.slice A n c, .int .u16 b, .int .i64 H] w fun e w' => ∃ A' c', e = .returned (.slice A' n c') ∧ Own w' w.heap.size 5 A' n c' (fixL l b (2 * K)) ∧ Below w.heap.size w w' := by
  have hmax := hb.max
  have hlen := hb.len
  have hl : (cu []).toArray = #[] := rfl
  have p6 : put16 l 6 b = (l.set 6 (ub (b / 256))).set 7 (ub b) := put16_eq (i := 6) (by omega)
  have p10 : put16 (put16 l 6 b) 10 0 = (((l.set 6 (ub (b / 256))).set 7 (ub b)).set 10 (ub 0)).set 11 (ub 0) := by rw [p6]; exact put16_eq (i := 10) (by simp; omega)
  obtain ⟨z, hz⟩ : ∃ z, put16 (put16 l 6 b) 10 0 = z := ⟨_, rfl⟩
  have zl : z.length = n := by rw [← hz]; simp only [put16_length]; exact hlen
  obtain ⟨s, hs⟩ : ∃ s, csum (z.take (2 * K)) = s := ⟨_, rfl⟩
  have s0 : 0 ≤ s := by rw [← hs]; exact csum_lo _
  have s1 : s ≤ 65535 := by rw [← hs]; exact csum_hi _
  have hws : 65535 - fd (wsK z K) = s := by
    rw [← hs]; unfold csum ws
    rw [List.length_take, zl, Nat.min_eq_left h2, show (2 * K + 1) / 2 = K from by omega, wsK_take (Nat.le_refl _)]
  have HF : Hid (fixL l b (2 * K) = (z.set 10 (ub (s / 256))).set 11 (ub s)) := by
    unfold Hid fixL; rw [hz, hs]; exact put16_eq (i := 10) (by omega)
  rw [hz] at p10
  have PZ := Lib.hid p10
  have HWS := Lib.hid hws
  have ZL := Lib.hid zl
  clear p6 p10 hz hs hws hlen zl
  go_enter Try.func25, Try.ntmps25
  go_wp2_with (first
    | (at_builtin; go_loud (refine wpList_append_bs (w0 := w) _ rfl _ _ _ rfl w.heap.size 5 Try.underlying24 info_u8 (some ⟨_, 0, none⟩) 0 0 [] rfl (own_litk _ _ (by simp) w.heap.size 5 [] 0 rfl (by omega) (by omega)) A n c l rfl (hb.alloc _) (by (repeat (first | with_reducible exact Below.refl _ _ | with_reducible refine below_drew ?_ | with_reducible refine below_drewN ?_ _ | with_reducible refine below_alloc ?_ (Nat.le_refl _) _ | with_reducible refine Below.setCell ?_ (by first | exact Nat.le_refl _ | (simp only []; omega)) _ | with_reducible assumption))) (by omega) (by first | exact Nat.le_refl _ | exact Below.size (by (repeat (first | with_reducible exact Below.refl _ _ | with_reducible refine below_drew ?_ | with_reducible refine below_drewN ?_ _ | with_reducible refine below_alloc ?_ (Nat.le_refl _) _ | with_reducible refine Below.setCell ?_ (by first | exact Nat.le_refl _ | (simp only []; omega)) _ | with_reducible assumption))) | omega | (simp <;> omega)) ?_); intro A3 n3 c3 w3 ho3 hB3 _ hz3; have u3 : n3 = n := (by have := ho3.len; have := hb.len; simp at *; omega); subst u3; replace ho3 : Own w3 w.heap.size 5 A3 n3 c3 l := ho3; (obtain ⟨g, rfl, g1, g2⟩ := ho3.ptr (by omega)); have a6 := ho3.at_ (i := 6) (by omega); have a7 := ho3.at_ (i := 7) (by omega); have a10 := ho3.at_ (i := 10) (by omega); have a11 := ho3.at_ (i := 11) (by omega)))
  have O4 := (((ho3.set_ (i := 6) (by omega) (b / 256) (y := b / 256) (by omega)).set_ (i := 7) (by omega) b (y := b % 256) rfl).set_ (i := 10) (by omega) 0 (y := 0) rfl).set_ (i := 11) (by omega) 0 (y := 0) rfl
  have T4 := (((hB3.setCell (p := ⟨g, 6, none⟩) g1 (.int .u8 (b / 256))).setCell (p := ⟨g, 7, none⟩) g1 (.int .u8 (b % 256))).setCell (p := ⟨g, 10, none⟩) g1 (.int .u8 0)).setCell (p := ⟨g, 11, none⟩) g1 (.int .u8 0)
  rw [← PZ.out] at O4
  clear ho3 a6 a7 a10 a11 hB3
  generalize (((w3.setCell ⟨g, 6, none⟩ (.int .u8 (b / 256))).setCell ⟨g, 7, none⟩ (.int .u8 (b % 256))).setCell ⟨g, 10, none⟩ (.int .u8 0)).setCell ⟨g, 11, none⟩ (.int .u8 0) = w4 at *
  go_loopw [8, 9] (fun v i wr => ∃ k : Nat, k ≤ K ∧ i = .int .i64 (2 * (k : Int)) ∧ v = .int .i64 (wsK z k) ∧ Own wr w.heap.size 5 (some ⟨g, 0, none⟩) n3 c3 z ∧ Below w.heap.size w wr) (fun _ i _ => 2 * K - (intOf i).toNat)
  case atStart => exact ⟨0, by omega, rfl, rfl, O4, T4⟩
  case round =>
    obtain ⟨k, hk, rfl, rfl, O5, T5⟩ := hrel
    have v0 := wsK_lo z k
    have v1 := wsK_hi z k
    by_cases hlt : k < K
    · have e0 : (2 * (k : Int)).toNat = 2 * k := by omega
      have e1 : (2 * (k : Int) + 1).toNat = 2 * k + 1 := by omega
      have c0 := O5.at_ (i := 2 * k) (by omega)
      have c1 := O5.at_ (i := 2 * k + 1) (by omega)
      have b2 := bt_lo z (2 * k)
      have b2' := bt_hi z (2 * k)
      have b3 := bt_lo z (2 * k + 1)
      have b3' := bt_hi z (2 * k + 1)
      have HW : Hid (wsK z (k + 1) = wsK z k + (bt z (2 * k) * 256 + bt z (2 * k + 1))) := rfl
      go_wp2_with (go_quiet (fail))
      exact ⟨⟨k + 1, by omega, by go_num, by rw [HW.out], O5.drewN nq, below_drewN T5 nq⟩, by simp [intOf]; omega⟩
    · obtain rfl : k = K := by omega
      obtain ⟨y, hy⟩ : ∃ y, wsK z k = y := ⟨_, rfl⟩
      rw [hy] at v0 v1 HWS ⊢
      go_wp2_with fail
      go_loop [8] (fun v => ∃ m : Int, 0 ≤ m ∧ m < 9223372036854775808 ∧ Hid (fd m = fd y) ∧ v = .int .i64 m) (fun v => (intOf v).toNat)
      case atStart => exact ⟨y, v0, by omega, rfl, rfl⟩
      case round =>
        obtain ⟨m, hm0, hm1, hm2, rfl⟩ := hrel
        by_cases hsm : m ≤ 65535
        · have hms : m = 65535 - s := by have := fd_small hm0 hsm; have := hm2.out; have := HWS.out; omega
          subst hms
          have c10 := O5.at_ (i := 10) (by omega)
          have c11 := O5.at_ (i := 11) (by omega)
          have O6 := (O5.set_ (i := 10) (by omega) (s / 256) (y := (65535 - (65535 - s)) / 256) (by omega)).set_ (i := 11) (by omega) s (y := (65535 - (65535 - s)) % 256) (by omega)
          have T6 := (T5.setCell (p := ⟨g, 10, none⟩) g1 (.int .u8 ((65535 - (65535 - s)) / 256))).setCell (p := ⟨g, 11, none⟩) g1 (.int .u8 ((65535 - (65535 - s)) % 256))
          go_wp2
          go_ret
          exact ⟨_, _, rfl, by rw [HF.out]; exact O6, T6⟩
        · go_wp2
          go_round
          case rel => exact ⟨_, by omega, by omega, by rw [Int.add_comm, fd_step hm0]; exact hm2, rfl⟩
          case measure => simp [intOf]; omega
end Go.Proofs.Ytkjhickjgncheaa

/- Parts of the proofs of this seat, laid together: Sum Ref1 IpS IpS2 Tight Concat With With2 Same4 RegX RegX2 Sto Open OpenPkt OpenMsgT. -/
import Derived.Shelf.RegionOpen
import Derived.OwnWalkIn
import Derived.TacticsInMore
import Derived.LoopNIn
import Derived.LoopIn
import Derived.Laws.CopyRow
import Derived.Lib.AppendZeros
import Derived.Lib.AppendZerosOnto
import Derived.BigRegion
import Derived.WalkKit
import Derived.ProofKit
import Derived.OpenShut
import Derived.ChangeOld
import Derived.Below
import Derived.SizedLaws
import Derived.JoinedCond
import Derived.Deep.Fields
import Derived.Test.YtjjhnjkmoogloaaK1
import Derived.Test.YtjjhnjkmoogloaaRows
namespace Go.Proofs.Ytjjhnjkmoogloaa
open Go.RowKit Go.Shelf
attribute [local go_sem] Oper.semAt_some
set_option linter.unusedVariables false
set_option maxRecDepth 100000

/-- How many bytes are left in the iterator's variable. -/
def leftIn (B : Nat) (W : World) : Nat := match W.cell? ⟨B, 0, none⟩ with
  | some (.slice _ n _) => n
  | _ => 0
theorem leftIn_eq {B : Nat} {W : World} {A : Option Addr} {n c : Nat} (h : W.cell? ⟨B, 0, none⟩ = some (.slice A n c)) : leftIn B W = n := by simp [leftIn, h]

/-- Between two rounds: k words have come, the iterator's variable holds v. -/
def SumI (w : World) (B : Nat) (C : Nat → World → Prop) (s : Nat × Value) (W : World) : Prop :=
  C s.1 W ∧ W.cell? ⟨B, 0, none⟩ = some s.2 ∧ W.frozen? ⟨B, 0, none⟩ = false ∧ Below w.heap.size w W
def SumOk (w : World) (l : List UInt8) (n : Nat) (s : Nat × Value) (x : Int) : Prop :=
  x = wd l s.1 ∧ 2 * s.1 < n

theorem bt_drop (l : List UInt8) (k i : Nat) : bt (l.drop k) i = bt l (k + i) := by
  unfold bt
  simp [List.getD_eq_getElem?_getD, List.getElem?_drop]

set_option maxHeartbeats 1000000 in
theorem words1_in (D B : Nat) (w : World) (l : List UInt8) (n : Nat) (hl : l.length = n) (hB : w.heap.size ≤ B) (hBD : B < D) (hn : n ≤ 200000000000000) (C : Nat → World → Prop) (R : World → Prop) (Rx : Code → World → Prop)
    (hC : ∀ k W u, C k W → C k (W.setCell ⟨B, 0, none⟩ u)) (hR : ∀ W W', R W → KeepsFrom D W W' → R W')
    (hY : ∀ s x W, SumOk w l n s x → SumI w B C s W → R W → YieldAt Fence.wide 1 Try.prog (D + 1) #[.int .u32 x] W (roundSaid (s.1 + 1, s.2) (SumI w B C) (fun _ _ _ => False) R Rx)) (W1 : World) (A0 : Option Addr) (c0 : Nat)
    (hb0 : Bs w A0 n c0 l) (h0 : SumI w B C (0, .slice A0 n c0) W1) (hR0 : R W1) :
    CallsIn Fence.wide 2 Try.prog 87 (#[.func (.yield (D + 1)) #[] #[]] ++ #[.pointer (some ⟨B, 0, none⟩)]) W1 (iterEnd (fun s => n ≤ 2 * s.1 ∧ 2 * s.1 ≤ n + 1) (SumI w B C) (fun _ _ _ => False) R Rx) := by
  obtain ⟨i8, hi8, _, hs8, _⟩ := info_parts info_u8
  refine callsIn_of_wp Try.func87 rfl trivial ?_ rfl
  simp only [Try.ntmps87, List.size_toArray, List.length_cons, List.length_nil, Nat.reduceAdd, Nat.reduceSub, Array.replicate_succ, Array.replicate_zero, List.push_toArray, List.append_toArray, List.nil_append, List.cons_append]
  gi_wp2
  gi_loopw [3] (fun _ wr => ∃ k A m c, m + 2 * k = max n (2 * k) ∧ 2 * k ≤ n + 1 ∧ Bs w A m c (l.drop (2 * k)) ∧ SumI w B C (k, .slice A m c) wr ∧ R wr) (fun _ wr => leftIn B wr)
  case atStart => exact ⟨0, A0, n, c0, by omega, by omega, by simpa using hb0, h0, hR0⟩
  case round =>
    obtain ⟨k, A, m, c, hm, hk, hb, hi, hr⟩ := hrel
    have hi' := hi
    obtain ⟨hc, hcell, hfz, hbel⟩ := hi
    have hlf := leftIn_eq hcell
    dsimp only at hcell hc
    by_cases h2 : 2 * k < n
    · have hm0 : 0 < m := by omega
      have hbr := hb.below hbel
      obtain ⟨b, off, rfl, hcs⟩ := hbr.rd hm0
      have g0 := hcs 0 hm0
      rw [bt_drop, Nat.add_zero, Nat.add_zero] at g0
      have b0 := bt_lo l (2 * k)
      have b0' := bt_hi l (2 * k)
      have b1 := bt_lo l (2 * k + 1)
      have b1' := bt_hi l (2 * k + 1)
      have hcap := hb.cap
      by_cases h3 : 1 < m
      · have g1 := hcs 1 h3
        rw [bt_drop] at g1
        have hor := or_u32b b0 b0' b1 b1'
        obtain ⟨fn, tmps, assign, body, hy, hR2⟩ := hY (k, _) (bt l (2 * k) * 256 + bt l (2 * k + 1)) wr ⟨rfl, h2⟩ hi' hr
        have hcut : ∀ W, (Instr.slice 24 (.slice (some ⟨b, off, none⟩) m c) (some (.int .i64 2)) none none).run Try.prog W = _ := fun W => cut_l Try.underlying24 hi8 hs8 (some ⟨b, off, none⟩) m c .i64 2 (by omega) (by omega) W
        obtain ⟨A', n', c', eA, en, ec, hb2⟩ := hb.cutE (lo := 2) (hi := m) (by omega) (Nat.le_refl _)
        simp only [show (2 : Int).toNat = 2 from rfl, eA, en, ec] at hcut
        have hb3 : Bs w A' n' c' (l.drop (2 * (k + 1))) := by
          rw [List.take_of_length_le (by rw [hb.len]; exact Nat.le_refl _), List.drop_drop] at hb2
          exact hb2
        have en1 : n' + 2 = m := by omega
        have en2 : m ≤ n' + 2 := by omega
        have en3 : n' + 2 ≤ m := by omega
        clear eA en ec hb2 hcs en1 hm
        have HM : Hid (m + 2 * k = n) := by unfold Hid; have := hb.len; simp at this; omega
        clear hlf
        gi_wp2
        refine hR2.mono ?_
        rintro e W2 (⟨rfl, ⟨hc2, hcell2, hfz2, hbel2⟩, hr2⟩ | ⟨_, _, hx, _⟩)
        · dsimp only at hcell2 hc2
          gi_wp2
          go_roundw
          case rel => exact ⟨k + 1, A', n', c', by have := HM.out; omega, by omega, hb3, ⟨hC _ _ _ hc2, by rw [World.cell?_setCell_same' _ _ _ (by rw [hcell2]; rfl)], by rw [World.frozen?_setCell]; exact hfz2, hbel2.setCell (p := ⟨B, 0, none⟩) hB _⟩, hR _ _ hr2 (keeps_setCell _ _ _)⟩
          case measure => rw [leftIn_eq (World.cell?_setCell_same' W2 _ _ (by rw [hcell2]; rfl)), leftIn_eq hcell]; omega
        · exact hx.elim
      · have hm1 : m ≤ 1 := by omega
        have hwd : wd l k = bt l (2 * k) * 256 := wd_odd (by have := hb.len; simp at this; omega)
        obtain ⟨fn, tmps, assign, body, hy, hR2⟩ := hY (k, _) (bt l (2 * k) * 256) wr ⟨hwd.symm, h2⟩ hi' hr
        obtain rfl : m = 1 := by omega
        have hcut : ∀ W, (Instr.slice 24 (.slice (some ⟨b, off, none⟩) 1 c) (some (.int .i64 1)) none none).run Try.prog W = _ := fun W => cut_l Try.underlying24 hi8 hs8 (some ⟨b, off, none⟩) 1 c .i64 1 (by omega) (by omega) W
        obtain ⟨A', n', c', eA, en, ec, hb2⟩ := hb.cutE (lo := 1) (hi := 1) (by omega) (Nat.le_refl _)
        simp only [show (1 : Int).toNat = 1 from rfl, eA, en, ec] at hcut
        have hb3 : Bs w A' n' c' (l.drop (2 * (k + 1))) := by
          have e : (List.take 1 (l.drop (2 * k))).drop 1 = l.drop (2 * (k + 1)) := by
            have h4 := hb.len
            simp only [List.length_drop] at h4
            rw [List.drop_eq_nil_of_le (by simp; omega), List.drop_eq_nil_of_le (by omega)]
          rw [e] at hb2
          exact hb2
        have en1 : n' ≤ 0 := by omega
        have HM : Hid (1 + 2 * k = n) := by unfold Hid; have := hb.len; simp at this; omega
        clear eA en ec hb2 hcs hm hlf hwd
        gi_wp2
        refine hR2.mono ?_
        rintro e W2 (⟨rfl, ⟨hc2, hcell2, hfz2, hbel2⟩, hr2⟩ | ⟨_, _, hx, _⟩)
        · dsimp only at hcell2 hc2
          gi_wp2
          go_roundw
          case rel => exact ⟨k + 1, A', n', c', by have := HM.out; omega, by have := HM.out; omega, hb3, ⟨hC _ _ _ hc2, by rw [World.cell?_setCell_same' _ _ _ (by rw [hcell2]; rfl)], by rw [World.frozen?_setCell]; exact hfz2, hbel2.setCell (p := ⟨B, 0, none⟩) hB _⟩, hR _ _ hr2 (keeps_setCell _ _ _)⟩
          case measure => rw [leftIn_eq (World.cell?_setCell_same' W2 _ _ (by rw [hcell2]; rfl)), leftIn_eq hcell]; omega
        · exact hx.elim
    · have hm0 : m ≤ 0 := by omega
      have hm1 : ¬ (0 : Int) < m := by omega
      clear hlf hm
      gi_wp2
      go_end0
      exact ⟨⟨_, rfl⟩, .inl ⟨(k, _), ⟨by omega, hk⟩, hi', hr⟩⟩

set_option maxHeartbeats 1000000 in
theorem words_any (A : Option Addr) (n c : Nat) (w : World) :
    Calls Try.prog 80 #[.slice A n c] w fun e w' => e = .returned (.func (.func 87) #[] #[.pointer (some ⟨w.heap.size, 0, none⟩)]) ∧ w' = w.alloc (.cells #[.slice A n c] 24) := by
  have hmf : ∀ (fn : Fn) (first cap : Array Value) (w : World), (Instr.makeFunc fn first cap).run Try.prog w = .ok (.func fn first cap) w := fun _ _ _ _ => rfl
  go_enter Try.func80, Try.ntmps80
  go_wp2
  go_ret
  exact ⟨rfl, rfl⟩

set_option maxHeartbeats 1000000 in
theorem sum_any (A : Option Addr) (n c : Nat) (l : List UInt8) (w : World) (hb : Bs w A n c l) :
    Calls Try.prog 65 #[.slice A n c] w fun e w' => e = .returned (.int .u16 (csum l)) ∧ Below w.heap.size w w' := by
  refine (callsIn_wide (n := 3)).1 ?_
  refine callsIn_of_wp_marks Try.func65 rfl trivial ?_ rfl
  simp only [Try.ntmps65, List.size_toArray, List.length_cons, List.length_nil, Nat.reduceAdd, Nat.reduceSub, Array.replicate_succ, Array.replicate_zero, List.push_toArray, List.append_toArray, List.nil_append, List.cons_append]
  gi_wp2_with (refine ⟨trivial, ?_⟩; gi_at_call 80; refine (callsIn_wide.2 (words_any A n c _)).mono ?_; rintro e w' ⟨rfl, rfl⟩)
  obtain ⟨W0, hW0⟩ : ∃ W0, ((w.alloc (Obj.cells #[Value.int IntKind.u64 0] 109)).alloc (Obj.cells #[Value.slice A n c] 24)) = W0 := ⟨_, rfl⟩
  have hsz : W0.heap.size = w.heap.size + 2 := by rw [← hW0]; simp
  have hbel : Below w.heap.size w W0 := by rw [← hW0]; exact ((Below.refl _ w).alloc (Nat.le_refl _) _).alloc (by simp) _
  have hn1 : W0.cell? ⟨w.heap.size, 0, none⟩ = some (.int .u64 0) := by rw [← hW0]; simp [go_sem]
  have hn2 : W0.frozen? ⟨w.heap.size, 0, none⟩ = false := by rw [← hW0]; simp [go_sem]
  have hn3 : W0.cell? ⟨w.heap.size + 1, 0, none⟩ = some (.slice A n c) := by rw [← hW0]; simp [go_sem]
  have hn4 : W0.frozen? ⟨w.heap.size + 1, 0, none⟩ = false := by rw [← hW0]; simp [go_sem]
  rw [hW0]
  clear hW0
  have hmax := hb.max
  have hlen := Lib.hid hb.len
  have hC : ∀ (k : Nat) (W : World) (u : Value), (W.cell? ⟨w.heap.size, 0, none⟩ = some (.int .u64 (wsK l k)) ∧ W.frozen? ⟨w.heap.size, 0, none⟩ = false) → ((W.setCell ⟨w.heap.size + 1, 0, none⟩ u).cell? ⟨w.heap.size, 0, none⟩ = some (.int .u64 (wsK l k)) ∧ (W.setCell ⟨w.heap.size + 1, 0, none⟩ u).frozen? ⟨w.heap.size, 0, none⟩ = false) := by
    rintro k W u ⟨h1, h2⟩
    exact ⟨by rw [World.cell?_setCell_other _ _ _ _ (by simp)]; exact h1, by rw [World.frozen?_setCell]; exact h2⟩
  refine range_law rfl (by omega) (gf := 87) (lb := #[.pointer (some ⟨w.heap.size + 1, 0, none⟩)]) rfl trivial (enters_of Try.func87 (by kernel_rfl) rfl)
    (fun x : Int => #[.int .u32 x]) (fun _ => rfl) (fun s _ => (s.1 + 1, s.2)) (0, .slice A n c) (fun s => n ≤ 2 * s.1 ∧ 2 * s.1 ≤ n + 1)
    (SumI w (w.heap.size + 1) fun k W => W.cell? ⟨w.heap.size, 0, none⟩ = some (.int .u64 (wsK l k)) ∧ W.frozen? ⟨w.heap.size, 0, none⟩ = false) (fun _ _ _ => False)
    ?hI (fun _ _ _ _ h => h) ?h0
    (fun x => { tmps := #[.slice A n c, undef, .int .u16 0, .pointer (some ⟨w.heap.size, 0, none⟩), .int .u32 x, .slice A n c, .func (.func 87) #[] #[.pointer (some ⟨w.heap.size + 1, 0, none⟩)], .int .u32 x, undef, undef, undef, undef, undef, undef, undef], defers := [] })
    ?assign (SumOk w l n) ?body ?iter ?done (fun _ _ _ h => h.elim)
  case hI =>
    rintro s W o ⟨⟨h1, h2⟩, h3, h4, h5⟩
    rw [hsz]
    exact ⟨⟨by rw [cell_putObj (by show w.heap.size ≠ _; omega)]; exact h1, by rw [frozen_putObj (by show w.heap.size ≠ _; omega)]; exact h2⟩, by rw [cell_putObj (by show w.heap.size + 1 ≠ _; omega)]; exact h3, by rw [frozen_putObj (by show w.heap.size + 1 ≠ _; omega)]; exact h4, below_putObj h5 (by omega) _⟩
  case h0 =>
    intro o o'
    have hb' : Below W0.heap.size W0 ((W0.alloc o).alloc o') := ((Below.refl _ W0).alloc (Nat.le_refl _) _).alloc (by simp) _
    exact ⟨⟨(hb'.cell (p := ⟨w.heap.size, 0, none⟩) (by show w.heap.size < _; omega)).trans hn1, (hb'.frozen (p := ⟨w.heap.size, 0, none⟩) (by show w.heap.size < _; omega)).trans hn2⟩,
      (hb'.cell (p := ⟨w.heap.size + 1, 0, none⟩) (by show w.heap.size + 1 < _; omega)).trans hn3, (hb'.frozen (p := ⟨w.heap.size + 1, 0, none⟩) (by show w.heap.size + 1 < _; omega)).trans hn4, hbel.trans (hb'.mono (by omega))⟩
  case assign =>
    intro x W K hK
    gi_wp2
    exact hK
  case body =>
    rintro s x W ⟨rfl, hk⟩ ⟨⟨h1, h2⟩, h3, h4, h5⟩ hz
    have y0 := wd_lo l s.1
    have y1 := wd_hi l s.1
    have x0 := wsK_lo l s.1
    have x1 := wsK_hi l s.1
    gi_wp2
    exact ⟨keeps_setCell _ _ _, ⟨World.cell?_setCell_same' _ _ _ (by rw [h1]; rfl), by rw [World.frozen?_setCell]; exact h2⟩, by rw [World.cell?_setCell_other _ _ _ _ (by simp)]; exact h3, by rw [World.frozen?_setCell]; exact h4, h5.setCell (p := ⟨w.heap.size, 0, none⟩) (Nat.le_refl _) _⟩
  case iter =>
    intro R Rx W1 hRk hRs hY h0 hR0 hz
    exact words1_in W0.heap.size (w.heap.size + 1) w l n hlen.out (by omega) (by omega) hmax _ R Rx hC hRk (fun s x W => hY s x W) W1 A c hb h0 hR0
  case done =>
    rintro s W ⟨hs1, hs2⟩ ⟨⟨h1, h2⟩, h3, h4, h5⟩ hK
    obtain ⟨k, v⟩ := s
    dsimp only at hs1 hs2 h1 h3
    have HW : Hid (65535 - fd (wsK l k) = csum l) := by
      unfold Hid csum ws
      rw [hlen.out, show (n + 1) / 2 = k from by omega]
    have x0 := wsK_lo l k
    have x1 := wsK_hi l k
    have hsg : IntKind.u16.signed = false := rfl
    have x3 := not_u16 (fd_lo (wsK l k)) (fd_hi _)
    gi_wp2_with (refine ⟨trivial, ?_⟩; gi_at_call 81; refine (callsIn_wide.2 (fold_any _ x0 (by omega) _)).mono ?_; rintro e w' ⟨rfl, rfl⟩)
    rw [hsz] at hK
    refine ⟨by simp, .inl ⟨_, _, rfl, run_takeDeferred hK, ?_⟩⟩
    refine ⟨_, results_tmp rfl _ _ _, ?_, below_putObj h5 (by omega) _⟩
    exact congrArg (fun z => Ending.returned (.int .u16 z)) HW.out

theorem good_any (A : Option Addr) (n c : Nat) (l : List UInt8) (w : World) (hb : Bs w A n c l) :
    Calls Try.prog 67 #[.slice A n c] w fun e w' => e = .returned (.bool (csum l == 0)) ∧ Below w.heap.size w w' := by
  go_enter Try.func67, Try.ntmps67
  go_wp2_with (go_at_call 65; refine (sum_any _ _ _ l _ hb).mono ?_; rintro e w1 ⟨rfl, hB⟩)
  go_ret
  exact ⟨rfl, hB⟩
end Go.Proofs.Ytjjhnjkmoogloaa

namespace Go.Proofs.Ytjjhnjkmoogloaa
open Go.RowKit
set_option linter.unusedVariables false
set_option maxRecDepth 100000

theorem rfold_any (n : Int) (h0 : 0 ≤ n) (h1 : n < 9223372036854775808) (w : World) :
    Calls Try.prog 86 #[.int .i64 n] w fun e w' => e = .returned (.int .i64 (fd n)) ∧ w = w' := by
  have hlo := fd_lo n
  have hhi := fd_hi n
  go_enter Try.func86, Try.ntmps86
  go_wp2
  go_loop [0] (fun v => ∃ m : Int, 0 ≤ m ∧ m < 9223372036854775808 ∧ Hid (fd m = fd n) ∧ v = .int .i64 m) (fun v => (intOf v).toNat)
  case atStart => exact ⟨n, h0, h1, rfl, rfl⟩
  case round =>
    obtain ⟨m, hm0, hm1, hm2, rfl⟩ := hrel
    by_cases hs : m ≤ 65535
    · have HQ : Hid (fd n = m) := by rw [← hm2.out]; exact fd_small hm0 hs
      go_wp2
      go_ret
      exact ⟨by rw [HQ.out]; rfl, rfl⟩
    · go_wp2
      go_round
      case rel => exact ⟨_, by omega, by omega, by rw [Int.add_comm, fd_step hm0]; exact hm2, rfl⟩
      case measure => simp [intOf]; omega

theorem rget16_any (A : Option Addr) (n c : Nat) (l : List UInt8) (a : Int) (w : World) (hb : Bs w A n c l) :
    Calls Try.prog 43 #[.slice A n c, .int .i64 a] w fun e w' => e = .returned (.int .u16 (get16 l a)) ∧ Drawn w w' := by
  have hmax := hb.max
  by_cases ha : a < 0
  · rw [get16_out (by rw [hb.len]; omega)]
    go_enter Try.func43, Try.ntmps43
    go_wp2
    go_ret
    exact ⟨rfl, Drawn.refl _⟩
  · by_cases hn : (n : Int) < 2
    · rw [get16_out (by rw [hb.len]; omega)]
      go_enter Try.func43, Try.ntmps43
      go_wp2
      go_ret
      exact ⟨rfl, Drawn.refl _⟩
    · by_cases h3 : a > (n : Int) - 2
      · rw [get16_out (by rw [hb.len]; omega)]
        go_enter Try.func43, Try.ntmps43
        go_wp2
        go_ret
        exact ⟨rfl, Drawn.refl _⟩
      · have hq : get16 l a = _ := get16_in (by omega) (by rw [hb.len]; omega)
        rw [hq]; clear hq
        obtain ⟨b, off, rfl, hc⟩ := hb.rd (by omega)
        obtain ⟨i, rfl⟩ := Int.eq_ofNat_of_zero_le (show 0 ≤ a by omega)
        have c0 := hc i (by omega)
        have c1 := hc (i + 1) (by omega)
        clear hc
        have b0 := bt_lo l i
        have b0' := bt_hi l i
        have b1 := bt_lo l (i+1)
        have b1' := bt_hi l (i+1)
        have hor := or_u16 b0 b0' b1 b1'
        have j0 : (i : Int) < (n : Int) := by omega
        have j1 : (i : Int) + 1 < (n : Int) := by omega
        have j2 : 0 ≤ (i : Int) + 1 := by omega
        have j3 : ((i : Int) + 1).toNat = i + 1 := by omega
        have j4 : IntKind.i64.wrap ((i : Int) + 1) = (i : Int) + 1 := IntWalk.i64_in _ (by omega)
        go_enter Try.func43, Try.ntmps43
        go_wp2
        go_quiet (fail)
        go_wp2
        go_ret
        exact ⟨rfl, (Drawn.refl _).step _⟩

theorem rget32_any (A : Option Addr) (n c : Nat) (l : List UInt8) (a : Int) (w : World) (hb : Bs w A n c l) :
    Calls Try.prog 44 #[.slice A n c, .int .i64 a] w fun e w' => e = .returned (.int .u32 (get32 l a)) ∧ Drawn w w' := by
  have hmax := hb.max
  by_cases ha : a < 0
  · rw [get32_out (by rw [hb.len]; omega)]
    go_enter Try.func44, Try.ntmps44
    go_wp2_with fail
    go_ret
    exact ⟨rfl, Drawn.refl _⟩
  · by_cases hn : (n : Int) < 4
    · rw [get32_out (by rw [hb.len]; omega)]
      go_enter Try.func44, Try.ntmps44
      go_wp2_with fail
      go_ret
      exact ⟨rfl, Drawn.refl _⟩
    · by_cases h3 : a > (n : Int) - 4
      · rw [get32_out (by rw [hb.len]; omega)]
        go_enter Try.func44, Try.ntmps44
        go_wp2_with fail
        go_ret
        exact ⟨rfl, Drawn.refl _⟩
      · have hq : get32 l a = _ := get32_in (by omega) (by rw [hb.len]; omega)
        rw [hq]; clear hq
        have b0 := get16_lo l a
        have b0' := get16_hi l a
        have b1 := get16_lo l (a+2)
        have b1' := get16_hi l (a+2)
        have hor := or_u32 b0 b0' b1 b1'
        have j4 : IntKind.i64.wrap (a + 2) = a + 2 := IntWalk.i64_in _ (by omega)
        go_enter Try.func44, Try.ntmps44
        go_wp2_with (go_at_call 43; refine (rget16_any _ _ _ l _ _ (by first | exact hb | exact hb.drewN _)).mono ?_; rintro e w' ⟨rfl, ⟨nq, rfl⟩⟩)
        go_ret
        exact ⟨rfl, by repeat (first | exact Drawn.refl _ | apply Drawn.step | apply Drawn.drew)⟩

theorem two_any (v : Int) (v0 : 0 ≤ v) (v1 : v ≤ 65535) (w : World) :
    Calls Try.prog 53 #[.int .u16 v] w fun e w' => ∃ A' c', e = .returned (.slice A' 2 c') ∧ Own w' w.heap.size 5 A' 2 c' (two v) ∧ Below w.heap.size w w' := by
  have ho := own_lit w w.heap.size 5 (two v) 2 rfl (by omega) (Nat.le_refl _)
  have hl : (cu (two v)).toArray = #[.int .u8 (v / 256), .int .u8 (v % 256)] := by simp [two, cu, ub_val]; omega
  rw [hl] at ho
  clear hl
  go_enter Try.func53, Try.ntmps53
  go_wp2
  go_ret
  exact ⟨_, _, rfl, ho, (Below.refl _ _).alloc (Nat.le_refl _) _⟩
theorem four_any (v : Int) (v0 : 0 ≤ v) (v1 : v ≤ 4294967295) (w : World) :
    Calls Try.prog 54 #[.int .u32 v] w fun e w' => ∃ A' c', e = .returned (.slice A' 4 c') ∧ Own w' w.heap.size 5 A' 4 c' (four v) ∧ Below w.heap.size w w' := by
  have ho := own_lit w w.heap.size 5 (four v) 4 rfl (by omega) (Nat.le_refl _)
  have hl : (cu (four v)).toArray = #[.int .u8 (v / 16777216), .int .u8 (v / 65536 % 256), .int .u8 (v / 256 % 256), .int .u8 (v % 256)] := by simp [four, cu, ub_val]; omega
  rw [hl] at ho
  clear hl
  go_enter Try.func54, Try.ntmps54
  go_wp2
  go_ret
  exact ⟨_, _, rfl, ho, (Below.refl _ _).alloc (Nat.le_refl _) _⟩

/-- 'words' of the reference: a row of ints. -/
theorem info_int : (Try.prog.info? 3).map (fun i => (i.zero, i.size, i.bytes)) = some (some (.int .i64 0), 1, 8) := by kernel_rfl
set_option maxHeartbeats 800000 in
theorem rwords_any (A : Option Addr) (n c : Nat) (l : List UInt8) (hn : n ≤ 17592186044416) (w : World) (hb : Bs w A n c l) :
    Calls Try.prog 85 #[.slice A n c] w fun e w' => ∃ A' c', e = .returned (.slice A' ((n + 1) / 2) c') ∧ w'.ownsRow w.heap.size 3 1 (.slice A' ((n + 1) / 2) c') ((n + 1) / 2) (ints (wd l) ((n + 1) / 2)) ∧ Below w.heap.size w w' := by
  obtain ⟨i0, hi0, hz0, hz1, hz2⟩ := info_parts info_int
  have hlen := hb.len
  have hl1 : n ≤ l.length := by omega
  have hl2 : l.length ≤ n := by omega
  clear hlen
  go_enter Try.func85, Try.ntmps85
  go_wp2
  go_loopw [3, 4, 5] (fun v i _ wr => ∃ (k : Nat) (A' : Option Addr) (c' : Nat), 2 * k ≤ n + 1 ∧ i = .int .i64 (2 * (k : Int)) ∧ v = .slice A' k c' ∧ wr.ownsRow w.heap.size 3 1 (.slice A' k c') k (ints (wd l) k) ∧ Below w.heap.size w wr) (fun _ i _ _ => n + 1 - (intOf i).toNat)
  case atStart => exact ⟨0, none, 0, by omega, rfl, rfl, World.ownsRow_nil _ _ _ _, Below.refl _ _⟩
  case round =>
    obtain ⟨k, A1, c1, hk, rfl, rfl, ho, hB⟩ := hrel
    by_cases hlt : 2 * k < n
    · have hbr := hb.below hB
      obtain ⟨b, off, rfl, hc⟩ := hbr.rd (by omega)
      have c0 := hc (2 * k) hlt
      have e0 : (2 * (k : Int)).toNat = 2 * k := by omega
      have e1 : (2 * (k : Int) + 1).toNat = 2 * k + 1 := by omega
      have b0 := bt_lo l (2 * k)
      have b0' := bt_hi l (2 * k)
      have b1 := bt_lo l (2 * k + 1)
      have b1' := bt_hi l (2 * k + 1)
      by_cases hlt1 : 2 * k + 1 < n
      · have c2 := hc (2 * k + 1) hlt1
        clear hc
        go_wp2_with (at_builtin; refine wpList_append_int (w0 := w) rfl _ _ _ rfl w.heap.size 3 Try.underlying123 info_int (wd l) A1 k c1 (bt l (2 * k) * 256 + bt l (2 * k + 1)) rfl rfl ho rfl hB (by omega) hB.size ?_; intro A2 c2' w1 hown' hB')
        go_roundw
        case rel => exact ⟨k + 1, A2, c2', by omega, by go_num, rfl, hown', hB'⟩
        case measure => simp [intOf]; omega
      · clear hc
        have ho1 := wd_odd (l := l) (i := k) (by omega)
        have HO := Lib.hid ho1
        clear ho1
        go_wp2_with (at_builtin; refine wpList_append_int (w0 := w) rfl _ _ _ rfl w.heap.size 3 Try.underlying123 info_int (wd l) A1 k c1 (bt l (2 * k) * 256) HO.out rfl ho rfl hB (by omega) hB.size ?_; intro A2 c2' w1 hown' hB')
        go_roundw
        case rel => exact ⟨k + 1, A2, c2', by omega, by go_num, rfl, hown', hB'⟩
        case measure => simp [intOf]; omega
    · have hkk : (n + 1) / 2 = k := by omega
      have HK := Lib.hid hkk
      clear hkk
      go_wp2
      go_ret
      rw [HK.out]
      exact ⟨_, _, rfl, ho, hB⟩

theorem ints_cell {w : World} {base : Nat} {e : TypeId} {A : Option Addr} {m c : Nat} {f : Nat → Int} (h : w.ownsRow base e 1 (.slice A m c) m (ints f m)) {i : Nat} (hi : i < m) :
    ∃ g, A = some ⟨g, 0, none⟩ ∧ w.cell? ⟨g, i, none⟩ = some (.int .i64 (f i)) := by
  obtain ⟨g, cap, hv, _, _⟩ := h.form (by omega)
  injection hv with h3 h4 h5
  subst h3 h5
  exact ⟨g, rfl, by rw [h.cellAt i (by omega), ints_at f hi]⟩
set_option maxHeartbeats 800000 in
theorem rsum_any (A : Option Addr) (n c : Nat) (l : List UInt8) (hn : n ≤ 17592186044416) (w : World) (hb : Bs w A n c l) :
    Calls Try.prog 73 #[.slice A n c] w fun e w' => e = .returned (.int .u16 (csum l)) ∧ Below w.heap.size w w' := by
  have HW : Hid (ws l = wsK l ((n + 1) / 2)) := by unfold Hid ws; rw [hb.len]
  obtain ⟨m, hm⟩ : ∃ m, (n + 1) / 2 = m := ⟨_, rfl⟩
  have hm1 : m ≤ 17592186044416 := by omega
  go_enter Try.func73, Try.ntmps73
  go_wp2_with fail
  refine (rwords_any _ _ _ l hn _ hb).mono ?_
  rw [hm] at HW ⊢
  clear hm
  rintro e w1 ⟨A1, c1, rfl, ho, hB⟩
  go_wp2_with fail
  go_loop [3, 5] (fun s i => ∃ k : Nat, k ≤ m ∧ i = .int .i64 k ∧ s = .int .i64 (fd (wsK l k))) (fun _ i => m - (intOf i).toNat)
  case atStart => exact ⟨0, by omega, rfl, rfl⟩
  case round =>
    obtain ⟨k, hk, rfl, rfl⟩ := hrel
    have x0 := fd_lo (wsK l k)
    have x1 := fd_hi (wsK l k)
    by_cases hlt : k < m
    · obtain ⟨g, rfl, hc⟩ := ints_cell ho hlt
      have y0 := wd_lo l k
      have y1 := wd_hi l k
      have HF : Hid (fd (fd (wsK l k) + wd l k) = fd (wsK l (k + 1))) := fd_add (wsK_lo l k) y0
      go_wp2_with (go_at_call 86; refine (rfold_any _ (by omega) (by omega) _).mono ?_; rintro e w' ⟨rfl, rfl⟩)
      go_round
      case rel => exact ⟨k + 1, by omega, by go_num, by rw [HF.out]⟩
      case measure => simp [intOf]; omega
    · obtain rfl : k = m := by omega
      go_wp2
      go_ret
      refine ⟨?_, hB⟩
      unfold csum
      rw [HW.out]
      rfl
theorem rput16_any (A : Option Addr) (n c : Nat) (l : List UInt8) (a v : Int) (v0 : 0 ≤ v) (v1 : v ≤ 65535) (w : World) (hb : Bs w A n c l) :
    Calls Try.prog 56 #[.slice A n c, .int .i64 a, .int .u16 v] w fun e w' => ∃ A' c', e = .returned (.slice A' n c') ∧ Own w' w.heap.size 5 A' n c' (put16 l a v) ∧ Below w.heap.size w w' := by
  have hmax := hb.max
  have hlen := Lib.hid hb.len
  by_cases ha : a < 0
  · have hq : put16 l a v = l := if_neg (by omega)
    rw [hq]; clear hq
    go_enter Try.func56, Try.ntmps56
    go_wp2_with (at_builtin; refine wpList_append_bs (w0 := w) _ rfl _ _ _ rfl w.heap.size 5 Try.underlying24 info_u8 none 0 0 [] rfl (own_nil _ _ _) A n c l rfl hb (Below.refl _ _) (by omega) (Nat.le_refl _) ?_; intro A1 m c1 w1 ho hB hg _)
    obtain rfl : m = n := by have := ho.len; have := hlen.out; simp at *; omega
    go_ret
    exact ⟨_, _, rfl, ho, hB⟩
  · by_cases hn : (n : Int) < 2
    · have hq : put16 l a v = l := if_neg (by rw [hlen.out]; omega)
      rw [hq]; clear hq
      go_enter Try.func56, Try.ntmps56
      go_wp2_with (at_builtin; refine wpList_append_bs (w0 := w) _ rfl _ _ _ rfl w.heap.size 5 Try.underlying24 info_u8 none 0 0 [] rfl (own_nil _ _ _) A n c l rfl hb (Below.refl _ _) (by omega) (Nat.le_refl _) ?_; intro A1 m c1 w1 ho hB hg _)
      obtain rfl : m = n := by have := ho.len; have := hlen.out; simp at *; omega
      go_ret
      exact ⟨_, _, rfl, ho, hB⟩
    · by_cases h3 : a > (n : Int) - 2
      · have hq : put16 l a v = l := if_neg (by rw [hlen.out]; omega)
        rw [hq]; clear hq
        go_enter Try.func56, Try.ntmps56
        go_wp2_with (at_builtin; refine wpList_append_bs (w0 := w) _ rfl _ _ _ rfl w.heap.size 5 Try.underlying24 info_u8 none 0 0 [] rfl (own_nil _ _ _) A n c l rfl hb (Below.refl _ _) (by omega) (Nat.le_refl _) ?_; intro A1 m c1 w1 ho hB hg _)
        obtain rfl : m = n := by have := ho.len; have := hlen.out; simp at *; omega
        go_ret
        exact ⟨_, _, rfl, ho, hB⟩
      · obtain ⟨i, rfl⟩ := Int.eq_ofNat_of_zero_le (show 0 ≤ a by omega)
        have hq : put16 l i v = (l.set i (ub (v / 256))).set (i + 1) (ub v) := by
          rw [put16, if_pos (by rw [hlen.out]; omega)]
          simp only [putK, Int.toNat_natCast]
          rw [List.set_comm _ _ (by omega)]
          simp
        rw [hq]; clear hq
        go_enter Try.func56, Try.ntmps56
        go_wp2_with (at_builtin; refine wpList_append_bs (w0 := w) _ rfl _ _ _ rfl w.heap.size 5 Try.underlying24 info_u8 none 0 0 [] rfl (own_nil _ _ _) A n c l rfl hb (Below.refl _ _) (by omega) (Nat.le_refl _) ?_; intro A1 m c1 w1 ho hB hg _; obtain rfl : m = n := (by have := ho.len; have := hlen.out; simp at *; omega); obtain ⟨g, rfl, hg1, hg2⟩ := ho.ptr (by omega); obtain ⟨d1, d2⟩ := ho.at_ (i := i) (by omega); obtain ⟨d3, d4⟩ := ho.at_ (i := i + 1) (by omega))
        have hB2 := (hB.setCell (p := ⟨g, i, none⟩) hg1 (.int .u8 (v / 256))).setCell (p := ⟨g, i + 1, none⟩) hg1 (.int .u8 (v % 256))
        have ho3 := (ho.set_ (i := i) (by omega) (v / 256) (y := v / 256) (by omega)).set_ (i := i + 1) (by omega) v rfl
        go_ret
        exact ⟨_, _, rfl, ho3, hB2⟩

theorem rput32_any (A : Option Addr) (n c : Nat) (l : List UInt8) (a v : Int) (v0 : 0 ≤ v) (v1 : v ≤ 4294967295) (w : World) (hb : Bs w A n c l) :
    Calls Try.prog 61 #[.slice A n c, .int .i64 a, .int .u32 v] w fun e w' => ∃ A' c', e = .returned (.slice A' n c') ∧ Own w' w.heap.size 5 A' n c' (put32 l a v) ∧ Below w.heap.size w w' := by
  have hmax := hb.max
  have hlen := Lib.hid hb.len
  by_cases h : a < 0 ∨ (n : Int) < 4 ∨ a > (n : Int) - 4
  · have hq : put32 l a v = l := if_neg (by rw [hlen.out]; omega)
    rw [hq]; clear hq
    have fin : Calls Try.prog 61 #[.slice A n c, .int .i64 a, .int .u32 v] w fun e w' => ∃ A' c', e = .returned (.slice A' n c') ∧ Own w' w.heap.size 5 A' n c' l ∧ Below w.heap.size w w' := by
      rcases h with h | h | h
      · go_enter Try.func61, Try.ntmps61
        go_wp2_with (at_builtin; refine wpList_append_bs (w0 := w) _ rfl _ _ _ rfl w.heap.size 5 Try.underlying24 info_u8 (some ⟨w.heap.size, 0, none⟩) 0 0 [] rfl (own_lit w _ _ [] 0 rfl (by omega) (Nat.le_refl _)) A n c l rfl (hb.alloc _) ((Below.refl _ _).alloc (Nat.le_refl _) _) (by omega) (by simp) ?_; intro A1 m c1 w1 ho hB hg _)
        obtain rfl : m = n := by have := ho.len; have := hlen.out; simp at *; omega
        go_ret
        exact ⟨_, _, rfl, ho, hB⟩
      · by_cases ha : a < 0
        · go_enter Try.func61, Try.ntmps61
          go_wp2_with (at_builtin; refine wpList_append_bs (w0 := w) _ rfl _ _ _ rfl w.heap.size 5 Try.underlying24 info_u8 (some ⟨w.heap.size, 0, none⟩) 0 0 [] rfl (own_lit w _ _ [] 0 rfl (by omega) (Nat.le_refl _)) A n c l rfl (hb.alloc _) ((Below.refl _ _).alloc (Nat.le_refl _) _) (by omega) (by simp) ?_; intro A1 m c1 w1 ho hB hg _)
          obtain rfl : m = n := by have := ho.len; have := hlen.out; simp at *; omega
          go_ret
          exact ⟨_, _, rfl, ho, hB⟩
        · go_enter Try.func61, Try.ntmps61
          go_wp2_with (at_builtin; refine wpList_append_bs (w0 := w) _ rfl _ _ _ rfl w.heap.size 5 Try.underlying24 info_u8 (some ⟨w.heap.size, 0, none⟩) 0 0 [] rfl (own_lit w _ _ [] 0 rfl (by omega) (Nat.le_refl _)) A n c l rfl (hb.alloc _) ((Below.refl _ _).alloc (Nat.le_refl _) _) (by omega) (by simp) ?_; intro A1 m c1 w1 ho hB hg _)
          obtain rfl : m = n := by have := ho.len; have := hlen.out; simp at *; omega
          go_ret
          exact ⟨_, _, rfl, ho, hB⟩
      · by_cases ha : a < 0
        · go_enter Try.func61, Try.ntmps61
          go_wp2_with (at_builtin; refine wpList_append_bs (w0 := w) _ rfl _ _ _ rfl w.heap.size 5 Try.underlying24 info_u8 (some ⟨w.heap.size, 0, none⟩) 0 0 [] rfl (own_lit w _ _ [] 0 rfl (by omega) (Nat.le_refl _)) A n c l rfl (hb.alloc _) ((Below.refl _ _).alloc (Nat.le_refl _) _) (by omega) (by simp) ?_; intro A1 m c1 w1 ho hB hg _)
          obtain rfl : m = n := by have := ho.len; have := hlen.out; simp at *; omega
          go_ret
          exact ⟨_, _, rfl, ho, hB⟩
        · by_cases hn : (n : Int) < 4
          · go_enter Try.func61, Try.ntmps61
            go_wp2_with (at_builtin; refine wpList_append_bs (w0 := w) _ rfl _ _ _ rfl w.heap.size 5 Try.underlying24 info_u8 (some ⟨w.heap.size, 0, none⟩) 0 0 [] rfl (own_lit w _ _ [] 0 rfl (by omega) (Nat.le_refl _)) A n c l rfl (hb.alloc _) ((Below.refl _ _).alloc (Nat.le_refl _) _) (by omega) (by simp) ?_; intro A1 m c1 w1 ho hB hg _)
            obtain rfl : m = n := by have := ho.len; have := hlen.out; simp at *; omega
            go_ret
            exact ⟨_, _, rfl, ho, hB⟩
          · go_enter Try.func61, Try.ntmps61
            go_wp2_with (at_builtin; refine wpList_append_bs (w0 := w) _ rfl _ _ _ rfl w.heap.size 5 Try.underlying24 info_u8 (some ⟨w.heap.size, 0, none⟩) 0 0 [] rfl (own_lit w _ _ [] 0 rfl (by omega) (Nat.le_refl _)) A n c l rfl (hb.alloc _) ((Below.refl _ _).alloc (Nat.le_refl _) _) (by omega) (by simp) ?_; intro A1 m c1 w1 ho hB hg _)
            obtain rfl : m = n := by have := ho.len; have := hlen.out; simp at *; omega
            go_ret
            exact ⟨_, _, rfl, ho, hB⟩
    exact fin
  · have hq : put32 l a v = put16 (put16 l a (v / 65536)) (a + 2) (v % 65536) := put32_halves (by omega) (by rw [hlen.out]; omega)
    rw [hq]; clear hq
    have h1 : ¬ a < 0 := by omega
    have h2 : ¬ (n : Int) < 4 := by omega
    have h3 : ¬ a > (n : Int) - 4 := by omega
    clear h
    go_enter Try.func61, Try.ntmps61
    go_wp2_with fail
    refine (rput16_any _ _ _ l a (v / 65536) (by omega) (by omega) _ hb).mono ?_
    rintro e w1 ⟨A1, c1, rfl, ho1, hB1⟩
    go_wp2_with fail
    refine (rput16_any _ _ _ _ (a + 2) (v % 65536) (by omega) (by omega) _ ho1.bs).mono ?_
    rintro e w2 ⟨A2, c2, rfl, ho2, hB2⟩
    go_wp2_with fail
    go_ret
    exact ⟨_, _, rfl, ho2.mono hB1.size, below_then hB1 hB2⟩

theorem rpseudo_any (s d p n : Int) (s0 : 0 ≤ s) (s1 : s ≤ 4294967295) (d0 : 0 ≤ d) (d1 : d ≤ 4294967295) (p0 : 0 ≤ p) (p1 : p ≤ 255) (n0 : -9223372036854775808 ≤ n) (n1 : n ≤ 9223372036854775807) (w : World) :
    Calls Try.prog 74 #[.int .u32 s, .int .u32 d, .int .u8 p, .int .i64 n] w fun e w' => ∃ A' c', e = .returned (.slice A' 12 c') ∧ Own w' w.heap.size 5 A' 12 c' (pseudo s d p n) ∧ Below w.heap.size w w' := by
  have hl : (cu [0, ub p]).toArray = #[.int .u8 0, .int .u8 p] := by simp [cu, ub_val]; omega
  have hlit : ∀ W : World, Bs (W.alloc (.cells #[.int .u8 0, .int .u8 p] 5)) (some ⟨W.heap.size, 0, none⟩) 2 2 [0, ub p] := fun W => by rw [← hl]; exact bs_lit _ 2 rfl (by omega)
  clear hl
  have HLIT := Lib.hid hlit
  clear hlit
  go_enter Try.func74, Try.ntmps74
  go_wp2_with (first
    | (go_at_call 54; ((with_reducible refine (four_any s s0 s1 w).mono ?_); rintro e w1 ⟨A1, c1, rfl, ho1, hB1⟩; have hz1 := hB1.size))
    | (at_builtin; refine wpList_append_bs (w0 := w) _ rfl _ _ _ rfl w.heap.size 5 Try.underlying24 info_u8 none 0 0 [] rfl (own_nil _ _ _) A1 4 c1 (four s) rfl ho1.bs hB1 (by omega) hz1 ?_; intro A2 m2 c2 w2 ho2 hB2 _ _; have hz2 := hB2.size; have hm2 : m2 = 4 := ho2.len.symm; subst hm2)
    | (go_at_call 54; ((with_reducible refine (four_any d d0 d1 w2).mono ?_); rintro e w3 ⟨A3, c3, rfl, ho3, hB3⟩; have hz3 := hB3.size; replace ho2 := ho2.below hB3; replace hB3 := below_then hB2 hB3))
    | (at_builtin; refine wpList_append_bs (w0 := w) _ rfl _ _ _ rfl w.heap.size 5 Try.underlying24 info_u8 A2 4 c2 (four s) rfl ho2 A3 4 c3 (four d) rfl ho3.bs hB3 (by omega) (by omega) ?_; intro A4 m4 c4 w4 ho4 hB4 _ _; have hz4 := hB4.size; have hm4 : m4 = 8 := ho4.len.symm; subst hm4)
    | (at_builtin; refine wpList_append_bs (w0 := w) _ rfl _ _ _ rfl w.heap.size 5 Try.underlying24 info_u8 A4 8 c4 (four s ++ four d) rfl (ho4.alloc _) (some ⟨w4.heap.size, 0, none⟩) 2 2 [0, ub p] rfl (HLIT.out w4) (below_alloc hB4 (Nat.le_refl _) _) (by omega) (by simp; omega) ?_; intro A5 m5 c5 w5 ho5 hB5 _ _; have hz5 := hB5.size; have hm5 : m5 = 10 := ho5.len.symm; subst hm5)
    | (go_at_call 53; refine (two_any (n % 65536) (by omega) (by omega) w5).mono ?_; rintro e w6 ⟨A6, c6, rfl, ho6, hB6⟩; have hz6 := hB6.size; replace ho5 := ho5.below hB6; replace hB6 := below_then hB5 hB6)
    | (at_builtin; refine wpList_append_bs (w0 := w) _ rfl _ _ _ rfl w.heap.size 5 Try.underlying24 info_u8 A5 10 c5 (four s ++ four d ++ [0, ub p]) rfl ho5 A6 2 c6 (two (n % 65536)) rfl ho6.bs hB6 (by omega) (by omega) ?_; intro A7 m7 c7 w7 ho7 hB7 _ _; have hm7 : m7 = 12 := ho7.len.symm; subst hm7))
  go_ret
  exact ⟨_, _, rfl, ho7, hB7⟩
end Go.Proofs.Ytjjhnjkmoogloaa

namespace Go.Proofs.Ytjjhnjkmoogloaa
open Go.RowKit
set_option linter.unusedVariables false
set_option linter.unusedSimpArgs false
set_option maxHeartbeats 4000000
set_option maxRecDepth 100000
theorem str_toListS (l : List UInt8) : (str l).toList = l := by rw [ByteArray.toList_eq]; rfl
theorem str_beqS (l m : List UInt8) : ((str l).toList == (str m).toList) = (l == m) := by rw [str_toListS, str_toListS]
theorem bequalS_any (A : Option Addr) (n c : Nat) (l : List UInt8) (A2 : Option Addr) (n2 c2 : Nat) (l2 : List UInt8) (w : World) (hb : Bs w A n c l) (hb2 : Bs w A2 n2 c2 l2) :
    Calls Try.prog 63 #[.slice A n c, .slice A2 n2 c2] w fun e w' => e = .returned (.bool (l == l2)) ∧ w = w' := by
  have c1 := cv hb
  have c2' := cv hb2
  have hs := str_beqS l l2
  go_enter Try.func63, Try.ntmps63
  go_wp2
  go_ret
  exact ⟨rfl, rfl⟩
theorem same_any (p q : Pkt) (A1 : Option Addr) (n1 c1 : Nat) (A2 : Option Addr) (n2 c2 : Nat) (B1 : Option Addr) (m1 d1 : Nat) (B2 : Option Addr) (m2 d2 : Nat) (w : World)
    (k1 : Bs w A1 n1 c1 p.opt) (k2 : Bs w A2 n2 c2 p.dat) (j1 : Bs w B1 m1 d1 q.opt) (j2 : Bs w B2 m2 d2 q.dat) :
    Calls Try.prog 35 #[(.agg #[.int .u8 (p).tos, .int .u16 (p).id, .bool (p).keep, .int .u8 (p).ttl, .int .u8 (p).proto, .int .u32 (p).src, .int .u32 (p).dst, .slice A1 n1 c1, .slice A2 n2 c2]), (.agg #[.int .u8 (q).tos, .int .u16 (q).id, .bool (q).keep, .int .u8 (q).ttl, .int .u8 (q).proto, .int .u32 (q).src, .int .u32 (q).dst, .slice B1 m1 d1, .slice B2 m2 d2])] w fun e w' => e = .returned (.bool (sameP p q)) ∧ Below w.heap.size w w' := by
  go_enter Try.func35, Try.ntmps35
  go_wp2_with (first
    | (go_at_call 63; ((with_reducible refine (bequalS_any A1 n1 c1 p.opt B1 m1 d1 q.opt _ ((k1.alloc _).alloc _) ((j1.alloc _).alloc _)).mono ?_); rintro e w1 ⟨rfl, rfl⟩))
    | (go_at_call 63; ((with_reducible refine (bequalS_any A2 n2 c2 p.dat B2 m2 d2 q.dat _ ((k2.alloc _).alloc _) ((j2.alloc _).alloc _)).mono ?_); rintro e w1 ⟨rfl, rfl⟩)))
  all_goals go_ret
  all_goals refine ⟨?_, by (repeat (first | with_reducible exact Below.refl _ _ | with_reducible refine below_drew ?_ | with_reducible refine below_drewN ?_ _ | with_reducible refine below_alloc ?_ (Nat.le_refl _) _ | with_reducible refine Below.setCell ?_ (by first | exact Nat.le_refl _ | (simp only []; omega)) _ | with_reducible assumption))⟩
  all_goals simp_all [sameP]
theorem rsame_any (p q : Pkt) (A1 : Option Addr) (n1 c1 : Nat) (A2 : Option Addr) (n2 c2 : Nat) (B1 : Option Addr) (m1 d1 : Nat) (B2 : Option Addr) (m2 d2 : Nat) (w : World)
    (k1 : Bs w A1 n1 c1 p.opt) (k2 : Bs w A2 n2 c2 p.dat) (j1 : Bs w B1 m1 d1 q.opt) (j2 : Bs w B2 m2 d2 q.dat) :
    Calls Try.prog 22 #[(.agg #[.int .u8 (p).tos, .int .u16 (p).id, .bool (p).keep, .int .u8 (p).ttl, .int .u8 (p).proto, .int .u32 (p).src, .int .u32 (p).dst, .slice A1 n1 c1, .slice A2 n2 c2]), (.agg #[.int .u8 (q).tos, .int .u16 (q).id, .bool (q).keep, .int .u8 (q).ttl, .int .u8 (q).proto, .int .u32 (q).src, .int .u32 (q).dst, .slice B1 m1 d1, .slice B2 m2 d2])] w fun e w' => e = .returned (.bool (sameP p q)) ∧ Below w.heap.size w w' := by
  have x1 := fun o o' => cv ((k1.alloc o).alloc o')
  have x2 := fun o o' => cv ((k2.alloc o).alloc o')
  have y1 := fun o o' => cv ((j1.alloc o).alloc o')
  have y2 := fun o o' => cv ((j2.alloc o).alloc o')
  have s1 := str_beqS p.opt q.opt
  have s2 := str_beqS p.dat q.dat
  go_enter Try.func22, Try.ntmps22
  go_wp2_with fail
  all_goals go_ret
  all_goals refine ⟨?_, by (repeat (first | with_reducible exact Below.refl _ _ | with_reducible refine below_drew ?_ | with_reducible refine below_drewN ?_ _ | with_reducible refine below_alloc ?_ (Nat.le_refl _) _ | with_reducible refine Below.setCell ?_ (by first | exact Nat.le_refl _ | (simp only []; omega)) _ | with_reducible assumption))⟩
  all_goals simp_all [sameP]
end Go.Proofs.Ytjjhnjkmoogloaa

namespace Go.Proofs.Ytjjhnjkmoogloaa
open Go.RowKit
set_option linter.unusedVariables false
set_option linter.unusedSimpArgs false
set_option maxHeartbeats 4000000
set_option maxRecDepth 100000
def rightP (p : Pkt) : Bool := decide (p.opt.length ≤ 40) && decide (p.opt.length % 4 = 0) && decide (20 + p.opt.length + p.dat.length ≤ 65535)
theorem right_any (p : Pkt) (A1 : Option Addr) (n1 c1 : Nat) (A2 : Option Addr) (n2 c2 : Nat) (w : World) (k1 : Bs w A1 n1 c1 p.opt) (k2 : Bs w A2 n2 c2 p.dat) :
    Calls Try.prog 75 #[(.agg #[.int .u8 (p).tos, .int .u16 (p).id, .bool (p).keep, .int .u8 (p).ttl, .int .u8 (p).proto, .int .u32 (p).src, .int .u32 (p).dst, .slice A1 n1 c1, .slice A2 n2 c2])] w fun e w' => e = .returned (.bool (rightP p)) ∧ Below w.heap.size w w' := by
  have e1 := k1.len
  have e2 := k2.len
  have b1 := k1.max
  have b2 := k2.max
  have HR : Hid (rightP p = (decide (n1 ≤ 40) && decide (n1 % 4 = 0) && decide (20 + n1 + n2 ≤ 65535))) := by unfold Hid rightP; rw [e1, e2]
  clear e1 e2
  go_enter Try.func75, Try.ntmps75
  go_wp2_with fail
  all_goals go_ret
  all_goals refine ⟨?_, by (repeat (first | with_reducible exact Below.refl _ _ | with_reducible refine below_drew ?_ | with_reducible refine below_drewN ?_ _ | with_reducible refine below_alloc ?_ (Nat.le_refl _) _ | with_reducible refine Below.setCell ?_ (by first | exact Nat.le_refl _ | (simp only []; omega)) _ | with_reducible assumption))⟩
  all_goals rw [HR.out]
  all_goals congr 2
  all_goals (try (simp; done))
  all_goals (focus (simp; first | omega | (rw [Bool.eq_iff_iff]; simp; omega)))
theorem rright_any (p : Pkt) (A1 : Option Addr) (n1 c1 : Nat) (A2 : Option Addr) (n2 c2 : Nat) (w : World) (k1 : Bs w A1 n1 c1 p.opt) (k2 : Bs w A2 n2 c2 p.dat) :
    Calls Try.prog 30 #[(.agg #[.int .u8 (p).tos, .int .u16 (p).id, .bool (p).keep, .int .u8 (p).ttl, .int .u8 (p).proto, .int .u32 (p).src, .int .u32 (p).dst, .slice A1 n1 c1, .slice A2 n2 c2])] w fun e w' => e = .returned (.bool (rightP p)) ∧ Below w.heap.size w w' := by
  have e1 := k1.len
  have e2 := k2.len
  have b1 := k1.max
  have b2 := k2.max
  have HR : Hid (rightP p = (decide (n1 ≤ 40) && decide (n1 % 4 = 0) && decide (20 + n1 + n2 ≤ 65535))) := by unfold Hid rightP; rw [e1, e2]
  clear e1 e2
  go_enter Try.func30, Try.ntmps30
  go_wp2_with fail
  all_goals go_ret
  all_goals refine ⟨?_, by (repeat (first | with_reducible exact Below.refl _ _ | with_reducible refine below_drew ?_ | with_reducible refine below_drewN ?_ _ | with_reducible refine below_alloc ?_ (Nat.le_refl _) _ | with_reducible refine Below.setCell ?_ (by first | exact Nat.le_refl _ | (simp only []; omega)) _ | with_reducible assumption))⟩
  all_goals rw [HR.out]
  all_goals congr 2
  all_goals (try (simp; done))
  all_goals (focus (simp; first | omega | (rw [Bool.eq_iff_iff]; simp; omega)))
end Go.Proofs.Ytjjhnjkmoogloaa

/- Appends onto bytes of which none are spare: nothing that was there is written. -/
namespace Go.Proofs.Ytjjhnjkmoogloaa
open Go.RowKit
set_option linter.unusedVariables false
set_option linter.unusedSimpArgs false

section
variable {P : Program}
theorem run_append_tight (w : World) (base : Nat) (t ty e : TypeId) (ht : P.underlying t = some (.slice e)) (hinfo : (P.info? e).map (fun i => (i.zero, i.size, i.bytes)) = some (some (.int .u8 0), 1, 1))
    (A : Option Addr) (n : Nat) (l : List UInt8) (hown : Own w base e A n n l) (A2 : Option Addr) (n2 c2 : Nat) (l2 : List UInt8) (hr : Bs w A2 n2 c2 l2)
    (hmax : n + n2 ≤ 200000000000000) (hbase : base ≤ w.heap.size) :
    ∃ A' c' w', (Builtin.append_ #[t, t] ty #[.slice A n n, .slice A2 n2 c2]).run P w = .ok (.slice A' (n + n2) c') w' ∧ Own w' base e A' (n + n2) c' (l ++ l2) ∧ Below w.heap.size w w' := by
  obtain ⟨A', c', w', hrun, ho, hg⟩ := run_append_bs (P := P) w base t ty e ht hinfo A n n l hown A2 n2 c2 l2 hr hmax hbase
  refine ⟨A', c', w', hrun, ho, ?_⟩
  obtain ⟨i, hi, hz, hs, hb⟩ := info_parts hinfo
  cases A2 with
  | none =>
    have h0 : n2 = 0 := by
      rcases Nat.eq_zero_or_pos n2 with h0 | h0
      · exact h0
      · obtain ⟨b, off, he, _⟩ := hr.rd h0; cases he
    have hc0 := hr.nil rfl
    subst h0 hc0
    have h := run_append_owned_none (P := P) w base t ty e i 1 ht hi (.slice A n n) n (cu l) hown.row
    rw [h] at hrun
    injection hrun with _ e2
    subst e2
    exact Below.refl _ _
  | some ad =>
    have hl2 : (cu l2).length = n2 := by rw [cu_length, hr.len]
    rcases hown.row.2 with ⟨hv, rfl⟩ | ⟨g, cap, cur, hv, hbg, hgg, hnc, hcm, hcs, htake⟩
    · injection hv with hv
      subst hv
      by_cases h0 : n2 = 0
      · subst h0
        have h : (Builtin.append_ #[t, t] ty #[.slice none 0 0, .slice (some ad) 0 c2]).run P w = .ok (.slice none 0 0) w := by
          simp [Builtin.append_, run_underlying ht, sizeOf, typeInfo, hi, Builtin.lenOf, Builtin.firstCells, loadCells, loadCellsFrom]
        rw [h] at hrun
        injection hrun with _ e2
        subst e2
        exact Below.refl _ _
      · have h := run_append_nil (P := P) w t ty e i (.int .u8 0) ht hi hz ad n2 c2 (cu l2) (by rw [hl2, hs]; omega) (hr.cells rfl) (by omega) (by omega) (by rw [hb]; omega)
        rw [h] at hrun
        injection hrun with _ e2
        subst e2
        exact (Below.drew (Below.refl _ w)).alloc (Nat.le_refl _) _
    · injection hv with h1 h2 h3
      subst h1 h3
      by_cases h0 : n2 = 0
      · subst h0
        have hl0 : cu l2 = [] := List.eq_nil_of_length_eq_zero hl2
        have h := run_append_room (P := P) w t ty e i ht hi g n n cur hgg ad 0 c2 [] (by simp) (by simp) (by simp) (by omega) (by simp [hs]; omega)
        rw [h] at hrun
        injection hrun with _ e2
        have : (List.take (n * i.size) cur.toList ++ [] ++ List.drop (n * i.size + ([] : List Value).length) cur.toList).toArray = cur := by simp
        rw [this, setRow_self w g cur e (0, 0) hgg] at e2
        subst e2
        exact Below.refl _ _
      · have holds : ∀ j u, (cu l)[j]? = some u → w.cell? ((⟨g, 0, none⟩ : Addr).add j) = some u := hown.row.cells (g := g) rfl
        have h := run_append_grow (P := P) w t ty e i (.int .u8 0) ht hi hz ⟨g, 0, none⟩ n n (cu l) (by rw [cu_length, hown.len, hs]; omega) holds ad n2 c2 (cu l2) (by rw [hl2, hs]; omega) (hr.cells rfl) (by omega) (by omega) (growslice_fits_wide (by omega) (by rw [hb]; omega))
        rw [h] at hrun
        injection hrun with _ e2
        subst e2
        exact (Below.drew (Below.refl _ w)).alloc (Nat.le_refl _) _
end
/-- Bytes of the call's own, of which none are spare. -/
def isT (B n : Nat) (l : List UInt8) : World → Value → Prop := fun W v => ∃ A, v = .slice A n n ∧ Own W B 5 A n n l
theorem st_isT {B n : Nat} {l : List UInt8} : ∀ w w' v, isT B n l w v → Below w.heap.size w w' → isT B n l w' v := fun _ _ _ ⟨A, e, k⟩ hb => ⟨A, e, k.below hb⟩
/-- Bytes of the call's own, however many. -/
def isW (B : Nat) (l : List UInt8) : World → Value → Prop := fun W v => ∃ A n c, v = .slice A n c ∧ Own W B 5 A n c l
theorem st_isW {B : Nat} {l : List UInt8} : ∀ w w' v, isW B l w v → Below w.heap.size w w' → isW B l w' v := fun _ _ _ ⟨A, n, c, e, k⟩ hb => ⟨A, n, c, e, k.below hb⟩
theorem own_isW {w : World} {base B : Nat} {A : Option Addr} {n c : Nat} {l : List UInt8} (h : Own w base 5 A n c l) (hr : B ≤ base) : isW B l w (.slice A n c) := ⟨A, n, c, rfl, h.mono hr⟩
theorem goes_lit {B n : Nat} {W : World} {l : List UInt8} {cs : Array Value} (hc : (cu l).toArray = cs) (hn : l.length = n) (hm : n ≤ 200000000000000) (h : B ≤ W.heap.size) :
    OpGoes Try.prog (fun v w' => (Kd.p (isT B n l)).holds w' v ∧ Below W.heap.size W w') (.ok (.value (.slice (some ⟨W.heap.size, 0, none⟩) n n)) (W.alloc (.cells cs 5))) := by
  subst hc
  exact ⟨⟨_, rfl, own_lit W B _ l n hn hm h⟩, (Below.refl _ W).alloc (Nat.le_refl _) _⟩
theorem goes_app {o : Oper} {a : Act} {W : World} (s x : Operand) (ho : o.op = .call { callee := .builtin .append, args := #[s, x], argTypes := #[24, 24] }) {B n : Nat} {A : Option Addr} {l : List UInt8} (hs : a.eval s = .slice A n n)
    (hown : Own W B 5 A n n l) {A2 : Option Addr} {n2 c2 : Nat} {l2 : List UInt8} (hx : a.eval x = .slice A2 n2 c2) (hr : Bs W A2 n2 c2 l2) (hmax : n + n2 ≤ 200000000000000) (hB : B ≤ W.heap.size) :
    OpGoes Try.prog (fun v w' => (Kd.p (isW B (l ++ l2))).holds w' v ∧ Below W.heap.size W w') ((execOp a.eval o).run Try.prog W) := by
  obtain ⟨A', c', w', hrun, hown', hB'⟩ := run_append_tight (P := Try.prog) W B 24 o.type 5 Try.underlying24 info_u8 A n l hown A2 n2 c2 l2 hr hmax hB
  unfold execOp
  simp only [ho, resolve, invoke, builtin, Sem.run_bind, Sem.run_pure, Result.andThen_ok, List.map_toArray, List.map_cons, List.map_nil, hs, hx, hrun]
  exact ⟨⟨A', _, c', rfl, hown'⟩, hB'⟩
/-- A new block of these cells. -/
def isNew (B : Nat) (cs : Array Value) (t : TypeId) : World → Value → Prop := fun W v => ∃ g, v = .pointer (some ⟨g, 0, none⟩) ∧ B ≤ g ∧ Blk W g cs t
theorem st_isNew {B : Nat} {cs : Array Value} {t : TypeId} : ∀ w w' v, isNew B cs t w v → Below w.heap.size w w' → isNew B cs t w' v := fun _ _ _ ⟨g, e, h, k⟩ hb => ⟨g, e, h, k.below hb⟩
theorem goes_new {B : Nat} {W : World} {cs : Array Value} {t : TypeId} (h : B ≤ W.heap.size) : OpGoes Try.prog (fun v w' => (Kd.p (isNew B cs t)).holds w' v ∧ Below W.heap.size W w') (.ok (.value (.pointer (some ⟨W.heap.size, 0, none⟩))) (W.alloc (.cells cs t))) :=
  ⟨⟨_, rfl, h, blk_new W cs t _ rfl⟩, (Below.refl _ W).alloc (Nat.le_refl _) _⟩
end Go.Proofs.Ytjjhnjkmoogloaa

/- slices.Grow of nil, slices.Concat of a few rows of bytes. -/
namespace Go.Proofs.Ytjjhnjkmoogloaa
open Go.RowKit
set_option linter.unusedVariables false
set_option maxRecDepth 100000
set_option linter.unusedSimpArgs false
set_option maxHeartbeats 1000000

theorem own_grown (w : World) (e : TypeId) (k : Nat) (h0 : 0 < k) (hk : k ≤ 200000000000000) :
    Own (w.drew.alloc (.cells (Builtin.zeroCells #[.int .u8 0] k ++ Builtin.zeroCells #[.int .u8 0] (grownCap w k 0 e - k)) e)) w.heap.size e (some ⟨w.heap.size, 0, none⟩) 0 (grownCap w k 0 e) [] := by
  have hge := grownCap_ge w k 0 e
  refine ⟨rfl, by omega, ⟨rfl, .inr ⟨w.heap.size, _, _, rfl, Nat.le_refl _, heap_alloc_new w.drew _, Nat.zero_le _, grownCap_le_maxLen w k 0 e (by simp only [maxLen]; omega), ?_, ?_⟩⟩⟩
  · simp [Array.size_append, size_zeroCells]; omega
  · simp [cu]
theorem grow_any (k : Nat) (hk : k ≤ 200000000000000) (w : World) :
    Calls Try.prog 76 #[.slice none 0 0, .int .i64 (k : Int)] w fun e w' => ∃ A c, e = .returned (.slice A 0 c) ∧ Own w' w.heap.size 5 A 0 c [] ∧ Below w.heap.size w w' := by
  obtain ⟨i8, hi8, hz8, hs8, hb8⟩ := info_parts info_u8
  by_cases h0 : k = 0
  · subst h0
    go_enter Try.func76, Try.ntmps76
    go_wp2_with fail
    go_ret
    exact ⟨none, 0, rfl, own_nil _ _ _, Below.refl _ _⟩
  · have hk0 : (0 : Int) < k := by omega
    have hrun := Lib.run_append_nil_zeros (P := Try.prog) w 24 3 24 5 i8 (.int .u8 0) .i64 .i64 Try.underlying24 Try.underlying3 hi8 hz8 k (by omega) (by omega) (by omega) (by rw [hb8]; omega)
    have hown := own_grown w 5 k (by omega) hk
    have hge := grownCap_ge w k 0 5
    have hB : Below w.heap.size w (w.drew.alloc (.cells (Builtin.zeroCells #[.int .u8 0] k ++ Builtin.zeroCells #[.int .u8 0] (grownCap w k 0 5 - k)) 5)) := (Below.drew (Below.refl _ w)).alloc (Nat.le_refl _) _
    simp only [Value.cells] at hrun
    generalize w.drew.alloc (.cells (Builtin.zeroCells #[.int .u8 0] k ++ Builtin.zeroCells #[.int .u8 0] (grownCap w k 0 5 - k)) 5) = w1 at hrun hown hB
    generalize grownCap w k 0 5 = cp at hrun hown hge
    have hcut : ∀ W, (Instr.slice 24 (.slice (some ⟨w.heap.size, 0, none⟩) k cp) none (some (.int .i64 0)) none).run Try.prog W = .ok (.slice (some ⟨w.heap.size, 0, none⟩) 0 cp) W := fun W => by
      rw [cut_h Try.underlying24 hi8 hs8 (some ⟨w.heap.size, 0, none⟩) k cp .i64 0 (by omega) (by omega) W]; simp [Addr.add]
    have hcut0 : ∀ W, (Instr.slice 24 (.slice none 0 0) none (some (.int .i64 0)) none).run Try.prog W = .ok (.slice none 0 0) W := fun W => by
      rw [cut_h Try.underlying24 hi8 hs8 none 0 0 .i64 0 (by omega) (by omega) W]; simp
    go_enter Try.func76, Try.ntmps76
    go_wp2_with (at_builtin; refine Lib.wpList_append_run _ rfl _ _ _ _ rfl _ _ rfl rfl _ _ hrun ?_)
    go_ret
    exact ⟨_, _, rfl, hown, hB⟩
/-- The first k of some rows one behind the other; their number. -/
def catL (L : Nat → List UInt8) : Nat → List UInt8
  | 0 => []
  | k + 1 => catL L k ++ L k
def catN (n : Nat → Nat) : Nat → Nat
  | 0 => 0
  | k + 1 => catN n k + n k
theorem catN_le {n : Nat → Nat} : ∀ {k m : Nat}, k ≤ m → catN n k ≤ catN n m
  | k, 0, h => by obtain rfl : k = 0 := by omega
                  exact Nat.le_refl _
  | k, m + 1, h => by
    by_cases e : k = m + 1
    · subst e; exact Nat.le_refl _
    · have := catN_le (n := n) (show k ≤ m by omega)
      simp only [catN]; omega
theorem concat_any (g m c : Nat) (f : Nat → Option Addr) (n : Nat → Nat) (d : Nat → Nat) (L : Nat → List UInt8) (hm : m ≤ 1000) (w : World) (hg : g < w.heap.size) (hc : ∀ j, j < m → w.cell? ⟨g, j, none⟩ = some (.slice (f j) (n j) (d j)))
    (hb : ∀ j, j < m → Bs w (f j) (n j) (d j) (L j)) (htot : catN n m ≤ 200000000000000) :
    Calls Try.prog 49 #[.slice (some ⟨g, 0, none⟩) m c] w fun e w' => ∃ A n c', e = .returned (.slice A n c') ∧ Own w' w.heap.size 5 A n c' (catL L m) ∧ Below w.heap.size w w' := by
  have hlen : ∀ k, k ≤ m → (catL L k).length = catN n k := by
    intro k
    induction k with
    | zero => intro _; rfl
    | succ k ih =>
      intro hk
      simp only [catL, catN, List.length_append]
      rw [ih (by omega), (hb k (by omega)).len]
  have HL := Lib.hid hlen
  have hmono : ∀ k, k ≤ m → catN n k ≤ catN n m := fun k hk => catN_le hk
  have HM := Lib.hid hmono
  have HN : Hid (∀ k, catN n (k + 1) = catN n k + n k) := fun _ => rfl
  have HA : Hid (∀ k, catL L (k + 1) = catL L k ++ L k) := fun _ => rfl
  clear hlen hmono
  go_enter Try.func49, Try.ntmps49
  go_wp2_with fail
  go_loop [3, 11] (fun s i => ∃ k : Nat, k ≤ m ∧ i = .int .i64 k ∧ s = .int .i64 (catN n k)) (fun _ i => m - (intOf i).toNat)
  case atStart => exact ⟨0, by omega, rfl, rfl⟩
  case round =>
    obtain ⟨k, hk, rfl, rfl⟩ := hrel
    by_cases hlt : k < m
    · have ck := hc k hlt
      have b1 := HM.out (k + 1) (by omega)
      have b2 := HN.out k
      have b3 := HM.out k (by omega)
      have hki : (k : Int) < m := by omega
      obtain ⟨s, hs⟩ : ∃ s : Nat, catN n k = s := ⟨_, rfl⟩
      obtain ⟨t, ht⟩ : ∃ t : Nat, n k = t := ⟨_, rfl⟩
      obtain ⟨u, hu⟩ : ∃ u : Nat, s + t = u := ⟨_, rfl⟩
      have hui : (s : Int) + t = u := by omega
      have hul : (u : Int) ≤ 200000000000000 := by omega
      have HU : Hid (catN n (k + 1) = u) := by unfold Hid; omega
      rw [ht] at ck
      rw [hs]
      clear b1 b2 b3 hs hu
      go_wp2_with fail
      exact ⟨⟨k + 1, by omega, by go_num, by rw [HU.out]⟩, by simp [intOf]; omega⟩
    · obtain rfl : k = m := by omega
      obtain ⟨s, hs⟩ : ∃ s : Nat, catN n k = s := ⟨_, rfl⟩
      rw [hs] at htot ⊢
      have HS := Lib.hid hs
      clear hs
      go_wp2_with (go_at_call 76; ((with_reducible refine (grow_any s (by omega) _).mono ?_); rintro e w1 ⟨A1, c1, rfl, ho1, hB1⟩))
      go_loopw [6, 27] (fun v i wr => ∃ (j : Nat) (A : Option Addr) (q cc : Nat), j ≤ k ∧ i = .int .i64 j ∧ v = .slice A q cc ∧ Own wr w.heap.size 5 A q cc (catL L j) ∧ Below w.heap.size w wr) (fun _ i _ => k - (intOf i).toNat)
      case atStart => exact ⟨0, A1, 0, c1, by omega, rfl, rfl, ho1, hB1⟩
      case round =>
        obtain ⟨j, A2, q, cc, hj, rfl, rfl, ho2, hB2⟩ := hrel
        by_cases hlt2 : j < k
        · have cj := (hB2.cell (p := ⟨g, j, none⟩) hg).trans (hc j hlt2)
          have hji : (j : Int) < k := by omega
          have q1 : q = catN n j := by rw [← ho2.len, HL.out j (by omega)]
          have q2 := HM.out (j + 1) (by omega)
          have q3 := HN.out j
          have q4 := HS.out
          have bj := (hb j hlt2).below hB2
          have hql : q + n j ≤ 200000000000000 := by omega
          clear q1 q2 q3 q4
          go_wp2_with (at_builtin; refine wpList_append_bs (w0 := w) _ rfl _ _ _ rfl w.heap.size 5 Try.underlying24 info_u8 A2 q cc _ rfl ho2 (f j) (n j) (d j) (L j) rfl bj hB2 (by omega) (by first | exact Nat.le_refl _ | exact Below.size hB2 | omega | (simp <;> omega)) ?_; intro A3 n3 c3 w3 ho3 hB3 _ hz3)
          go_roundw
          case rel => exact ⟨j + 1, A3, n3, c3, by omega, by go_num, rfl, by rw [HA.out]; exact ho3, hB3⟩
          case measure => simp [intOf]; omega
        · obtain rfl : j = k := by omega
          go_wp2
          go_ret
          exact ⟨_, _, _, rfl, ho2, hB2⟩
end Go.Proofs.Ytjjhnjkmoogloaa

/- A packet with other data. -/
namespace Go.Proofs.Ytjjhnjkmoogloaa
open Go.RowKit
set_option linter.unusedVariables false
set_option linter.unusedSimpArgs false
set_option maxHeartbeats 4000000
set_option maxRecDepth 100000

def wiE (p : Pkt) (n : Nat) : Int := if 40 < p.opt.length ∨ p.opt.length % 4 ≠ 0 then 4 else if 65535 < 20 + p.opt.length + n then 8 else 0
def withP (p : Pkt) (pr : Int) (d : List UInt8) : Pkt := if wiE p d.length = 0 then { p with proto := pr, dat := d } else zP
structure WiPost (w : World) (P : Pkt) (E : Int) (e : Ending) (w' : World) : Prop where
  out : ∃ B1 m1 d1 B2 m2 d2, e = .returned (.tuple #[(.agg #[.int .u8 (P).tos, .int .u16 (P).id, .bool (P).keep, .int .u8 (P).ttl, .int .u8 (P).proto, .int .u32 (P).src, .int .u32 (P).dst, .slice B1 m1 d1, .slice B2 m2 d2]), .int .i64 E]) ∧ Own w' w.heap.size 5 B1 m1 d1 P.opt ∧ Own w' w.heap.size 5 B2 m2 d2 P.dat ∧ Below w.heap.size w w'
theorem wiPost_no {w w' : World} {E : Int} (hB : Below w.heap.size w w') : WiPost w zP E (.returned (.tuple #[.agg #[.int .u8 0, .int .u16 0, .bool false, .int .u8 0, .int .u8 0, .int .u32 0, .int .u32 0, .slice none 0 0, .slice none 0 0], .int .i64 E])) w' :=
  ⟨none, 0, 0, none, 0, 0, rfl, own_nil _ _ _, own_nil _ _ _, hB⟩
theorem rwith_ok (p : Pkt) (A1 : Option Addr) (n1 c1 : Nat) (A2 : Option Addr) (n2 c2 : Nat) (pr : Int) (A3 : Option Addr) (n3 c3 : Nat) (d : List UInt8) (w : World) (k1 : Bs w A1 n1 c1 p.opt) (k3 : Bs w A3 n3 c3 d)
    (h1 : (n1 : Int) ≤ 40) (h2 : ((n1 : Int) % 4 != 0) = false) (h3 : 20 + (n1 : Int) + n3 ≤ 65535) :
    Calls Try.prog 55 #[(.agg #[.int .u8 (p).tos, .int .u16 (p).id, .bool (p).keep, .int .u8 (p).ttl, .int .u8 (p).proto, .int .u32 (p).src, .int .u32 (p).dst, .slice A1 n1 c1, .slice A2 n2 c2]), .int .u8 pr, .slice A3 n3 c3] w (WiPost w { p with proto := pr, dat := d } 0) := by
  have b1 := k1.max
  have b3 := k3.max
  have hl0 : (cu []).toArray = #[] := rfl
  obtain ⟨k, hk⟩ : ∃ k : Nat, w.heap.size = k := ⟨_, rfl⟩
  obtain ⟨w1, hw1⟩ : ∃ w1, (w.alloc (.cells #[.int .u8 (p).tos, .int .u16 (p).id, .bool (p).keep, .int .u8 (p).ttl, .int .u8 (p).proto, .int .u32 (p).src, .int .u32 (p).dst, .slice A1 n1 c1, .slice A2 n2 c2] 26)).alloc (.cells #[.int .u8 0, .int .u16 0, .bool false, .int .u8 0, .int .u8 0, .int .u32 0, .int .u32 0, .slice none 0 0, .slice none 0 0] 26) = w1 := ⟨_, rfl⟩
  have P1 : Blk w1 k #[.int .u8 (p).tos, .int .u16 (p).id, .bool (p).keep, .int .u8 (p).ttl, .int .u8 (p).proto, .int .u32 (p).src, .int .u32 (p).dst, .slice A1 n1 c1, .slice A2 n2 c2] 26 := by rw [← hw1]; exact (blk_new w _ _ k hk).alloc _
  have Z1 : Blk w1 (k + 1) #[.int .u8 0, .int .u16 0, .bool false, .int .u8 0, .int .u8 0, .int .u32 0, .int .u32 0, .slice none 0 0, .slice none 0 0] 26 := by rw [← hw1]; exact blk_new _ _ _ (k + 1) (by simp [hk])
  have R1 : Below w.heap.size w w1 := by rw [← hw1]; (repeat (first | with_reducible exact Below.refl _ _ | with_reducible refine below_drew ?_ | with_reducible refine below_drewN ?_ _ | with_reducible refine below_alloc ?_ (Nat.le_refl _) _ | with_reducible refine Below.setCell ?_ (by first | exact Nat.le_refl _ | (simp only []; omega)) _ | with_reducible assumption))
  obtain ⟨g, hg⟩ : ∃ g : Nat, w1.heap.size = g := ⟨_, rfl⟩
  have hgk : k + 2 ≤ g := by rw [← hg, ← hw1]; simp [hk]
  obtain ⟨w2, hw2⟩ : ∃ w2, w1.alloc (.cells #[.int .u8 p.tos, .int .u16 p.id, .bool p.keep, .int .u8 p.ttl, .int .u8 pr, .int .u32 p.src, .int .u32 p.dst, .slice A1 n1 c1, .slice A2 n2 c2] 26) = w2 := ⟨_, rfl⟩
  have Q2 : Blk w2 g #[.int .u8 p.tos, .int .u16 p.id, .bool p.keep, .int .u8 p.ttl, .int .u8 pr, .int .u32 p.src, .int .u32 p.dst, .slice A1 n1 c1, .slice A2 n2 c2] 26 := by rw [← hw2]; exact blk_new w1 _ _ g hg
  have V2 : Below w1.heap.size w1 w2 := by rw [← hw2]; (repeat (first | with_reducible exact Below.refl _ _ | with_reducible refine below_drew ?_ | with_reducible refine below_drewN ?_ _ | with_reducible refine below_alloc ?_ (Nat.le_refl _) _ | with_reducible refine Below.setCell ?_ (by first | exact Nat.le_refl _ | (simp only []; omega)) _ | with_reducible assumption))
  have R2 := below_then R1 V2
  have P2 := P1.below V2
  have Z2 := Z1.below V2
  have x1 := k1.below R2
  have hs2 : g < w2.heap.size := Q2.lt
  have kl2 : k < w2.heap.size := P2.lt
  have pc := P1.cell
  have pc2 := P2.cell
  have qc2 := Q2.cell
  go_enter Try.func55, Try.ntmps55
  go_wp2_with (first
    | (at_builtin; refine wpList_append_bs (w0 := w2) _ rfl _ _ _ rfl w2.heap.size 5 Try.underlying24 info_u8 (some ⟨_, 0, none⟩) 0 0 [] rfl (own_litk _ _ (by simp) w2.heap.size 5 [] 0 rfl (by omega) (by omega)) A1 n1 c1 p.opt rfl (x1.alloc _) (by (repeat (first | with_reducible exact Below.refl _ _ | with_reducible refine below_drew ?_ | with_reducible refine below_drewN ?_ _ | with_reducible refine below_alloc ?_ (Nat.le_refl _) _ | with_reducible refine Below.setCell ?_ (by first | exact Nat.le_refl _ | (simp only []; omega)) _ | with_reducible assumption))) (by omega) (by first | exact Nat.le_refl _ | exact Below.size (by (repeat (first | with_reducible exact Below.refl _ _ | with_reducible refine below_drew ?_ | with_reducible refine below_drewN ?_ _ | with_reducible refine below_alloc ?_ (Nat.le_refl _) _ | with_reducible refine Below.setCell ?_ (by first | exact Nat.le_refl _ | (simp only []; omega)) _ | with_reducible assumption))) | omega | (simp <;> omega)) ?_; intro A4 n4 c4 w4 ho4 hB4 _ hz4; have u4 : n4 = n1 := (by have := ho4.len; have := x1.len; simp at *; omega); subst u4; replace ho4 : Own w4 w2.heap.size 5 A4 n4 c4 p.opt := ho4; have Q4 := Q2.below hB4; have qc4 := Q4.cell; (obtain ⟨w5, hw5, S5⟩ := store1 Q4 7 (.slice A4 n4 c4)); simp only [List.setIfInBounds_toArray, List.set_cons_zero, List.set_cons_succ] at S5; have T5 := S5.bel (below_then R2 hB4) (by omega); have P5 := S5.other (by omega) (P2.below hB4); have Z5 := S5.other (by omega) (Z2.below hB4); have Q5 := S5.blk; have O5 := S5.own ho4 (fun a e => by have := ho4.ge a e; omega); have qc5 := Q5.cell; have x5 := k3.below T5)
    | (at_builtin; refine wpList_append_bs (w0 := w5) _ rfl _ _ _ rfl w5.heap.size 5 Try.underlying24 info_u8 (some ⟨_, 0, none⟩) 0 0 [] rfl (own_litk _ _ (by simp) w5.heap.size 5 [] 0 rfl (by omega) (by omega)) A3 n3 c3 d rfl (x5.alloc _) (by (repeat (first | with_reducible exact Below.refl _ _ | with_reducible refine below_drew ?_ | with_reducible refine below_drewN ?_ _ | with_reducible refine below_alloc ?_ (Nat.le_refl _) _ | with_reducible refine Below.setCell ?_ (by first | exact Nat.le_refl _ | (simp only []; omega)) _ | with_reducible assumption))) (by omega) (by first | exact Nat.le_refl _ | exact Below.size (by (repeat (first | with_reducible exact Below.refl _ _ | with_reducible refine below_drew ?_ | with_reducible refine below_drewN ?_ _ | with_reducible refine below_alloc ?_ (Nat.le_refl _) _ | with_reducible refine Below.setCell ?_ (by first | exact Nat.le_refl _ | (simp only []; omega)) _ | with_reducible assumption))) | omega | (simp <;> omega)) ?_; intro A6 n6 c6 w6 ho6 hB6 _ hz6; have u6 : n6 = n3 := (by have := ho6.len; have := x5.len; simp at *; omega); subst u6; replace ho6 : Own w6 w5.heap.size 5 A6 n6 c6 d := ho6; have Q6 := Q5.below hB6; have qc6 := Q6.cell; have ql6 := Q5.lt; (obtain ⟨w7, hw7, S7⟩ := store1 Q6 8 (.slice A6 n6 c6)); simp only [List.setIfInBounds_toArray, List.set_cons_zero, List.set_cons_succ] at S7; have T7 := S7.bel (below_then T5 hB6) (by omega); have Z7 := S7.other (by omega) (Z5.below hB6); have zc7 := Z7.cell; have qc7 := S7.blk.cell; have O7 := S7.own (O5.below hB6) (fun a e => by have := O5.ge a e; omega); have D7 := S7.own ho6 (fun a e => by have := ho6.ge a e; omega)))
  obtain ⟨wf, hwf, Sf⟩ := store9 Z7 (.int .u8 p.tos) (.int .u16 p.id) (.bool p.keep) (.int .u8 p.ttl) (.int .u8 pr) (.int .u32 p.src) (.int .u32 p.dst) (.slice A4 n4 c4) (.slice A6 n6 c6)
  rw [hwf]
  have pf := Sf.blk.cell
  have s5 : w.heap.size ≤ w5.heap.size := T5.size
  have Tf := Sf.bel T7 (by omega)
  have Of := Sf.own O7 (fun a e => by have := O7.ge a e; omega)
  have Df := Sf.own D7 (fun a e => by have := D7.ge a e; have := Z5.lt; omega)
  refine bodyPost_ret (v := .tuple #[.agg #[.int .u8 p.tos, .int .u16 p.id, .bool p.keep, .int .u8 p.ttl, .int .u8 pr, .int .u32 p.src, .int .u32 p.dst, .slice A4 n4 c4, .slice A6 n6 c6], .int .i64 0]) (by simp [results, Try.results55, go_sem, pf]) rfl ⟨A4, n4, c4, A6, n6, c6, rfl, Of.mono (by omega), Df.mono s5, Tf⟩
theorem rwith_no (p : Pkt) (A1 : Option Addr) (n1 c1 : Nat) (A2 : Option Addr) (n2 c2 : Nat) (pr : Int) (A3 : Option Addr) (n3 c3 : Nat) (w : World) (b1 : n1 ≤ 200000000000000) (b3 : n3 ≤ 200000000000000) (E : Int)
    (h : (E = 4 ∧ 40 < (n1 : Int)) ∨ (E = 4 ∧ (n1 : Int) ≤ 40 ∧ ((n1 : Int) % 4 != 0) = true) ∨ (E = 8 ∧ (n1 : Int) ≤ 40 ∧ ((n1 : Int) % 4 != 0) = false ∧ 65535 < 20 + (n1 : Int) + n3)) :
    Calls Try.prog 55 #[(.agg #[.int .u8 (p).tos, .int .u16 (p).id, .bool (p).keep, .int .u8 (p).ttl, .int .u8 (p).proto, .int .u32 (p).src, .int .u32 (p).dst, .slice A1 n1 c1, .slice A2 n2 c2]), .int .u8 pr, .slice A3 n3 c3] w (WiPost w zP E) := by
  obtain ⟨k, hk⟩ : ∃ k : Nat, w.heap.size = k := ⟨_, rfl⟩
  obtain ⟨w1, hw1⟩ : ∃ w1, (w.alloc (.cells #[.int .u8 (p).tos, .int .u16 (p).id, .bool (p).keep, .int .u8 (p).ttl, .int .u8 (p).proto, .int .u32 (p).src, .int .u32 (p).dst, .slice A1 n1 c1, .slice A2 n2 c2] 26)).alloc (.cells #[.int .u8 0, .int .u16 0, .bool false, .int .u8 0, .int .u8 0, .int .u32 0, .int .u32 0, .slice none 0 0, .slice none 0 0] 26) = w1 := ⟨_, rfl⟩
  have P1 : Blk w1 k #[.int .u8 (p).tos, .int .u16 (p).id, .bool (p).keep, .int .u8 (p).ttl, .int .u8 (p).proto, .int .u32 (p).src, .int .u32 (p).dst, .slice A1 n1 c1, .slice A2 n2 c2] 26 := by rw [← hw1]; exact (blk_new w _ _ k hk).alloc _
  have Z1 : Blk w1 (k + 1) #[.int .u8 0, .int .u16 0, .bool false, .int .u8 0, .int .u8 0, .int .u32 0, .int .u32 0, .slice none 0 0, .slice none 0 0] 26 := by rw [← hw1]; exact blk_new _ _ _ (k + 1) (by simp [hk])
  have R1 : Below w.heap.size w w1 := by rw [← hw1]; (repeat (first | with_reducible exact Below.refl _ _ | with_reducible refine below_drew ?_ | with_reducible refine below_drewN ?_ _ | with_reducible refine below_alloc ?_ (Nat.le_refl _) _ | with_reducible refine Below.setCell ?_ (by first | exact Nat.le_refl _ | (simp only []; omega)) _ | with_reducible assumption))
  have pc := P1.cell
  have zc := Z1.cell
  obtain ⟨wf, hwf, Sf⟩ := store9 Z1 (.int .u8 0) (.int .u16 0) (.bool false) (.int .u8 0) (.int .u8 0) (.int .u32 0) (.int .u32 0) (.slice none 0 0) (.slice none 0 0)
  have pf := Sf.blk.cell
  have Tf := Sf.bel R1 (by omega)
  rcases h with ⟨rfl, h1⟩ | ⟨rfl, h1, h2⟩ | ⟨rfl, h1, h2, h3⟩
  all_goals go_enter Try.func55, Try.ntmps55
  all_goals go_wp2_with fail
  all_goals exact bodyPost_ret (by simp [results, Try.results55, go_sem, pf]) rfl (wiPost_no Tf)
theorem wiE_4 {p : Pkt} {n1 n : Nat} (l1 : p.opt.length = n1) (h : 40 < (n1 : Int) ∨ n1 % 4 ≠ 0) : wiE p n = 4 := by unfold wiE; rw [l1, if_pos (by omega)]
theorem wiE_8 {p : Pkt} {n1 n : Nat} (l1 : p.opt.length = n1) (h1 : (n1 : Int) ≤ 40) (h2 : n1 % 4 = 0) (h3 : 65535 < 20 + (n1 : Int) + n) : wiE p n = 8 := by unfold wiE; rw [l1, if_neg (by omega), if_pos (by omega)]
theorem wiE_0 {p : Pkt} {n1 n : Nat} (l1 : p.opt.length = n1) (h1 : (n1 : Int) ≤ 40) (h2 : n1 % 4 = 0) (h3 : 20 + (n1 : Int) + n ≤ 65535) : wiE p n = 0 := by unfold wiE; rw [l1, if_neg (by omega), if_neg (by omega)]
theorem m4_no {n : Nat} (h : n % 4 = 0) : ((n : Int) % 4 != 0) = false := by simp; omega
theorem m4_yes {n : Nat} (h : n % 4 ≠ 0) : ((n : Int) % 4 != 0) = true := by simp; omega
theorem rwith_any (p : Pkt) (A1 : Option Addr) (n1 c1 : Nat) (A2 : Option Addr) (n2 c2 : Nat) (pr : Int) (A3 : Option Addr) (n3 c3 : Nat) (d : List UInt8) (w : World) (k1 : Bs w A1 n1 c1 p.opt) (k3 : Bs w A3 n3 c3 d) :
    Calls Try.prog 55 #[(.agg #[.int .u8 (p).tos, .int .u16 (p).id, .bool (p).keep, .int .u8 (p).ttl, .int .u8 (p).proto, .int .u32 (p).src, .int .u32 (p).dst, .slice A1 n1 c1, .slice A2 n2 c2]), .int .u8 pr, .slice A3 n3 c3] w (WiPost w (withP p pr d) (wiE p d.length)) := by
  have l1 := k1.len
  have l3 := k3.len
  unfold withP
  by_cases h1 : (n1 : Int) ≤ 40
  · by_cases h2 : n1 % 4 = 0
    · by_cases h3 : 20 + (n1 : Int) + n3 ≤ 65535
      · rw [l3, wiE_0 l1 h1 h2 h3, if_pos rfl]
        exact rwith_ok p A1 n1 c1 A2 n2 c2 pr A3 n3 c3 d w k1 k3 h1 (m4_no h2) h3
      · rw [l3, wiE_8 l1 h1 h2 (by omega), if_neg (by decide)]
        exact rwith_no p A1 n1 c1 A2 n2 c2 pr A3 n3 c3 w k1.max k3.max 8 (.inr (.inr ⟨rfl, h1, m4_no h2, by omega⟩))
    · rw [wiE_4 l1 (.inr h2), if_neg (by decide)]
      exact rwith_no p A1 n1 c1 A2 n2 c2 pr A3 n3 c3 w k1.max k3.max 4 (.inr (.inl ⟨rfl, h1, m4_yes h2⟩))
  · rw [wiE_4 l1 (.inl (by omega)), if_neg (by decide)]
    exact rwith_no p A1 n1 c1 A2 n2 c2 pr A3 n3 c3 w k1.max k3.max 4 (.inl ⟨rfl, by omega⟩)
end Go.Proofs.Ytjjhnjkmoogloaa

/- ctrl.with: a packet with other data. -/
namespace Go.Proofs.Ytjjhnjkmoogloaa
open Go.RowKit
set_option linter.unusedVariables false
set_option linter.unusedSimpArgs false
set_option maxHeartbeats 4000000
set_option maxRecDepth 100000

theorem store478 {W : World} {r : Nat} {c0 c1 c2 c3 c4 c5 c6 c7 c8 : Value} {t : TypeId} (R : Blk W r #[c0, c1, c2, c3, c4, c5, c6, c7, c8] t) (v4 v7 v8 : Value) :
    ∃ wf, (((W.setCell ⟨r, 4, none⟩ v4).setCell ⟨r, 7, none⟩ v7).setCell ⟨r, 8, none⟩ v8) = wf ∧ Sto W r wf #[c0, c1, c2, c3, v4, c5, c6, v7, v8] t := by
  have h := (((Sto.nil R).set 4 v4).set 7 v7).set 8 v8
  simp only [List.setIfInBounds_toArray, List.set_cons_zero, List.set_cons_succ] at h
  exact ⟨_, rfl, h⟩
def isCat (lv : Value) (d : List UInt8) (w : World) : Prop := ∀ W, Below w.heap.size w W → Calls Try.prog 49 #[lv] W fun e w' => ∃ A n c, e = .returned (.slice A n c) ∧ Own w' W.heap.size 5 A n c d ∧ Below W.heap.size W w'
/-- A packet and an error; a packet: with rows of the call's own. -/
def isTup (B : Nat) (P : Pkt) (E : Int) : World → Value → Prop := fun W v => ∃ C1 e1 f1 C2 e2 f2, v = .tuple #[(.agg #[.int .u8 (P).tos, .int .u16 (P).id, .bool (P).keep, .int .u8 (P).ttl, .int .u8 (P).proto, .int .u32 (P).src, .int .u32 (P).dst, .slice C1 e1 f1, .slice C2 e2 f2]), .int .i64 E] ∧ Own W B 5 C1 e1 f1 P.opt ∧ Own W B 5 C2 e2 f2 P.dat
theorem st_isTup {B : Nat} {P : Pkt} {E : Int} : ∀ w w' v, isTup B P E w v → Below w.heap.size w w' → isTup B P E w' v := fun _ _ _ ⟨A, b, c, d, e, f, h, k, l⟩ hb => ⟨A, b, c, d, e, f, h, k.below hb, l.below hb⟩
def isPk (B : Nat) (P : Pkt) : World → Value → Prop := fun W v => ∃ C1 e1 f1 C2 e2 f2, v = (.agg #[.int .u8 (P).tos, .int .u16 (P).id, .bool (P).keep, .int .u8 (P).ttl, .int .u8 (P).proto, .int .u32 (P).src, .int .u32 (P).dst, .slice C1 e1 f1, .slice C2 e2 f2]) ∧ Own W B 5 C1 e1 f1 P.opt ∧ Own W B 5 C2 e2 f2 P.dat
theorem st_isPk {B : Nat} {P : Pkt} : ∀ w w' v, isPk B P w v → Below w.heap.size w w' → isPk B P w' v := fun _ _ _ ⟨A, b, c, d, e, f, h, k, l⟩ hb => ⟨A, b, c, d, e, f, h, k.below hb, l.below hb⟩
theorem goes_pk {B : Nat} {P : Pkt} {C1 C2 : Option Addr} {e1 f1 e2 f2 : Nat} {w : World} (h1 : Own w B 5 C1 e1 f1 P.opt) (h2 : Own w B 5 C2 e2 f2 P.dat) :
    OpGoes Try.prog (fun v w' => (Kd.p (isPk B P)).holds w' v ∧ Below w.heap.size w w') (.ok (.value (.agg #[.int .u8 (P).tos, .int .u16 (P).id, .bool (P).keep, .int .u8 (P).ttl, .int .u8 (P).proto, .int .u32 (P).src, .int .u32 (P).dst, .slice C1 e1 f1, .slice C2 e2 f2])) w) := ⟨⟨_, _, _, _, _, _, rfl, h1, h2⟩, Below.refl _ _⟩
theorem ret_tup {B : Nat} {P : Pkt} {E : Int} {C1 C2 : Option Addr} {e1 f1 e2 f2 : Nat} {w w' : World} (h1 : Own w' B 5 C1 e1 f1 P.opt) (h2 : Own w' B 5 C2 e2 f2 P.dat) (hB : Below w.heap.size w w') :
    ∃ v, Ending.returned (.tuple #[(.agg #[.int .u8 (P).tos, .int .u16 (P).id, .bool (P).keep, .int .u8 (P).ttl, .int .u8 (P).proto, .int .u32 (P).src, .int .u32 (P).dst, .slice C1 e1 f1, .slice C2 e2 f2]), .int .i64 E]) = .returned v ∧ (Kd.p (isTup B P E)).holds w' v ∧ Below w.heap.size w w' := ⟨_, rfl, ⟨_, _, _, _, _, _, rfl, h1, h2⟩, hB⟩
end Go.Proofs.Ytjjhnjkmoogloaa

/- Packets that are the same: contracts for laws. -/
namespace Go.Proofs.Ytjjhnjkmoogloaa
open Go.RowKit
set_option linter.unusedVariables false
set_option linter.unusedSimpArgs false
set_option maxHeartbeats 4000000
set_option maxRecDepth 100000

theorem rsame_zero4 (p : Pkt) (A1 : Option Addr) (n1 c1 : Nat) (A2 : Option Addr) (n2 c2 : Nat) (w : World) (k1 : Bs w A1 n1 c1 p.opt) (k2 : Bs w A2 n2 c2 p.dat) :
    Calls Try.prog 22 #[(.agg #[.int .u8 (p).tos, .int .u16 (p).id, .bool (p).keep, .int .u8 (p).ttl, .int .u8 (p).proto, .int .u32 (p).src, .int .u32 (p).dst, .slice A1 n1 c1, .slice A2 n2 c2]), .agg #[.int .u8 0, .int .u16 0, .bool false, .int .u8 0, .int .u8 0, .int .u32 0, .int .u32 0, .slice none 0 0, .slice none 0 0]] w fun e w' => e = .returned (.bool (sameP p zP)) ∧ Below w.heap.size w w' :=
  rsame_any p zP A1 n1 c1 A2 n2 c2 none 0 0 none 0 0 w k1 k2 (Bs.none_ _) (Bs.none_ _)
theorem rsame_self4 (p : Pkt) (A1 : Option Addr) (n1 c1 : Nat) (A2 : Option Addr) (n2 c2 : Nat) (B1 : Option Addr) (m1 d1 : Nat) (B2 : Option Addr) (m2 d2 : Nat) (w : World)
    (k1 : Bs w A1 n1 c1 p.opt) (k2 : Bs w A2 n2 c2 p.dat) (j1 : Bs w B1 m1 d1 p.opt) (j2 : Bs w B2 m2 d2 p.dat) :
    Calls Try.prog 22 #[(.agg #[.int .u8 (p).tos, .int .u16 (p).id, .bool (p).keep, .int .u8 (p).ttl, .int .u8 (p).proto, .int .u32 (p).src, .int .u32 (p).dst, .slice A1 n1 c1, .slice A2 n2 c2]), (.agg #[.int .u8 (p).tos, .int .u16 (p).id, .bool (p).keep, .int .u8 (p).ttl, .int .u8 (p).proto, .int .u32 (p).src, .int .u32 (p).dst, .slice B1 m1 d1, .slice B2 m2 d2])] w fun e w' => e = .returned (.bool true) ∧ Below w.heap.size w w' := by
  have h := rsame_any p p A1 n1 c1 A2 n2 c2 B1 m1 d1 B2 m2 d2 w k1 k2 j1 j2
  rw [sameP_self] at h
  exact h
end Go.Proofs.Ytjjhnjkmoogloaa

/- A statement whose order Go leaves open, in which a few operations, one behind the other, write in one block of the call's own (an append onto a row that may have room, a closure's counter), and no other writes. After Reg. -/
namespace Go.Proofs.Ytjjhnjkmoogloaa
open Go.RowKit
set_option linter.unusedVariables false
set_option linter.unusedSimpArgs false

theorem ext_refl (w : World) (g : Nat) : w.grownBy w (some g) := World.grownBy.refl _ _
theorem ext_trans {a b c : World} {g : Nat} (h : a.grownBy b (some g)) (k : b.grownBy c (some g)) : a.grownBy c (some g) :=
  ⟨k.os.trans h.os, k.tape.trans h.tape, k.output.trans h.output, Nat.le_trans h.size k.size, fun i hi hne => (k.block i (Nat.lt_of_lt_of_le hi h.size) hne).trans (h.block i hi hne)⟩
theorem ext_below {a b : World} {g : Nat} (h : Below a.heap.size a b) : a.grownBy b (some g) := ⟨h.os, h.tape, h.output, h.size, fun i hi _ => h.block i hi⟩
section
variable {w W : World} {g : Nat}
theorem Blk.ext {k : Nat} {cs : Array Value} {t : TypeId} (h : Blk w k cs t) (hE : w.grownBy W (some g)) (hk : k ≠ g) : Blk W k cs t := ⟨(hE.block k h.lt (by simpa using hk)).trans h.rd⟩
/-- What was there ahead of block g reads as it did. -/
theorem Bs.ext {v : World} {A : Option Addr} {n c : Nat} {l : List UInt8} (h : Bs v A n c l) (hB : Below v.heap.size v w) (hg : v.heap.size ≤ g) (hE : w.grownBy W (some g)) : Bs W A n c l :=
  h.keep fun p hp => by
    have h1 : W.cell? p = w.cell? p := by
      unfold World.cell?
      rw [hE.block p.block (Nat.lt_of_lt_of_le hp hB.size) (by intro e; injection e with e; omega)]
    rw [h1]
    exact hB.cell hp
end
def Kd.OkX (g : Nat) : Kd → Prop
  | .v _ => True
  | .b _ _ => False
  | .p q => ∀ w w' u, q w u → w.grownBy w' (some g) → q w' u
theorem Kd.keepX {g : Nat} {K : Kd} (hk : K.OkX g) {w w' : World} {v : Value} (h : K.holds w v) (hb : w.grownBy w' (some g)) : K.holds w' v := by
  cases K with
  | v x => exact h
  | b n l => exact hk.elim
  | p q => exact hk _ _ _ h hb
structure GoesX (P : Program) (K : Kd) (g : Nat) (J : World → Prop) (o : Oper) (W : World) (a : Act) : Prop where
  out : OpGoes P (fun v w' => K.holds w' v ∧ W.grownBy w' (some g) ∧ J w') ((execOp a.eval o).run P W)
def Ob1X (P : Program) (ops : Array Oper) (a0 : Act) (w0 : World) (g : Nat) (J : Nat → World → Prop) (c : Nat) (x : Bool) (ks : List (Tmp × Kd)) (o : Oper) (K : Kd) : Prop :=
  (x = false ∧ wantK ops ks o.guard = some true ∧ ∀ W, w0.grownBy W (some g) → leanOn ks W o.op.operands.toList (Goes P K o W) a0) ∨
  (x = true ∧ wantK ops ks o.guard = some true ∧ ∀ W, w0.grownBy W (some g) → J c W → leanOn ks W o.op.operands.toList (GoesX P K g (J (c + 1)) o W) a0) ∨
  (x = false ∧ wantK ops ks o.guard = some false ∧ K = .v undef)
def lastX (exs : List Nat) (i : Nat) : Bool := match exs.getLast? with
  | some j => j == i
  | none => false
def ObsX (P : Program) (ops : Array Oper) (a0 : Act) (w0 : World) (g : Nat) (J : Nat → World → Prop) (exs : List Nat) (fin : List (Tmp × Kd) → Prop) : Nat → Nat → List (Tmp × Kd) → List Oper → Prop
  | _, _, ks, [] => fin ks
  | i, c, ks, o :: rest => ∃ K t, o.dst = some t ∧ (K.Ok ∧ (lastX exs i = true ∨ K.OkX g)) ∧ Ob1X P ops a0 w0 g J c (exs.elem i) ks o K ∧ ObsX P ops a0 w0 g J exs fin (i + 1) (bif exs.elem i then c + 1 else c) ((t, K) :: ks) rest
section
variable {P : Program} {ops : Array Oper} {a0 : Act} {w0 : World} {g : Nat} {J : Nat → World → Prop} {exs : List Nat} {fin : List (Tmp × Kd) → Prop} {i c : Nat} {ks : List (Tmp × Kd)} {rest : List Oper}
  {t : Tmp} {op : Op} {ty : TypeId} {pos : String} {after : Array Edge} {gd : Option (Nat × Bool)}
theorem ObsX.v {x : Value} (hx : exs.elem i = false) (hg : wantK ops ks gd = some true) (ho : ∀ W, w0.grownBy W (some g) → leanOn ks W op.operands.toList (Goes P (.v x) ⟨some t, op, ty, pos, after, gd⟩ W) a0)
    (hr : ObsX P ops a0 w0 g J exs fin (i + 1) c ((t, .v x) :: ks) rest) : ObsX P ops a0 w0 g J exs fin i c ks (⟨some t, op, ty, pos, after, gd⟩ :: rest) :=
  ⟨.v x, t, rfl, ⟨trivial, .inr trivial⟩, .inl ⟨hx, hg, ho⟩, by rw [hx]; exact hr⟩
theorem ObsX.p {q : World → Value → Prop} (hx : exs.elem i = false) (hg : wantK ops ks gd = some true) (hkb : ∀ w w' v, q w v → Below w.heap.size w w' → q w' v) (hk : ∀ w w' v, q w v → w.grownBy w' (some g) → q w' v) (ho : ∀ W, w0.grownBy W (some g) → leanOn ks W op.operands.toList (Goes P (.p q) ⟨some t, op, ty, pos, after, gd⟩ W) a0)
    (hr : ObsX P ops a0 w0 g J exs fin (i + 1) c ((t, .p q) :: ks) rest) : ObsX P ops a0 w0 g J exs fin i c ks (⟨some t, op, ty, pos, after, gd⟩ :: rest) :=
  ⟨.p q, t, rfl, ⟨hkb, .inr hk⟩, .inl ⟨hx, hg, ho⟩, by rw [hx]; exact hr⟩
theorem ObsX.ev {x : Value} (hx : exs.elem i = true) (hg : wantK ops ks gd = some true) (ho : ∀ W, w0.grownBy W (some g) → J c W → leanOn ks W op.operands.toList (GoesX P (.v x) g (J (c + 1)) ⟨some t, op, ty, pos, after, gd⟩ W) a0)
    (hr : ObsX P ops a0 w0 g J exs fin (i + 1) (c + 1) ((t, .v x) :: ks) rest) : ObsX P ops a0 w0 g J exs fin i c ks (⟨some t, op, ty, pos, after, gd⟩ :: rest) :=
  ⟨.v x, t, rfl, ⟨trivial, .inr trivial⟩, .inr (.inl ⟨hx, hg, ho⟩), by rw [hx]; exact hr⟩
theorem ObsX.ep {q : World → Value → Prop} (hx : exs.elem i = true) (hg : wantK ops ks gd = some true) (hl : lastX exs i = true) (hkb : ∀ w w' v, q w v → Below w.heap.size w w' → q w' v) (ho : ∀ W, w0.grownBy W (some g) → J c W → leanOn ks W op.operands.toList (GoesX P (.p q) g (J (c + 1)) ⟨some t, op, ty, pos, after, gd⟩ W) a0)
    (hr : ObsX P ops a0 w0 g J exs fin (i + 1) (c + 1) ((t, .p q) :: ks) rest) : ObsX P ops a0 w0 g J exs fin i c ks (⟨some t, op, ty, pos, after, gd⟩ :: rest) :=
  ⟨.p q, t, rfl, ⟨hkb, .inl hl⟩, .inr (.inl ⟨hx, hg, ho⟩), by rw [hx]; exact hr⟩
theorem ObsX.skip (hx : exs.elem i = false) (hg : wantK ops ks gd = some false) (hr : ObsX P ops a0 w0 g J exs fin (i + 1) c ((t, .v undef) :: ks) rest) : ObsX P ops a0 w0 g J exs fin i c ks (⟨some t, op, ty, pos, after, gd⟩ :: rest) :=
  ⟨.v undef, t, rfl, ⟨trivial, .inr trivial⟩, .inr (.inr ⟨hx, hg, rfl⟩), by rw [hx]; exact hr⟩
theorem ObsX.nil (h : fin ks) : ObsX P ops a0 w0 g J exs fin i c ks [] := h
end
/-- How many of them stand ahead of place i. -/
def czX (exs : List Nat) : Nat → Nat
  | 0 => 0
  | i + 1 => bif exs.elem i then czX exs i + 1 else czX exs i
/-- Each is one of the first m, and waits for the one before it. -/
def exB (ops : Array Oper) (m : Nat) (exs : List Nat) : Bool := (List.range exs.length).all fun q => decide (exs.getD q 0 < m) && czX exs (exs.getD q 0) == q && (q == 0 || match ops[exs.getD q 0]? with
  | some o => hasOn o (exs.getD (q - 1) 0)
  | none => false)
theorem ObsX.out {P : Program} {ops : Array Oper} {a0 : Act} {w0 : World} {g : Nat} {J : Nat → World → Prop} {exs : List Nat} {fin : List (Tmp × Kd) → Prop} : ∀ {l : List Oper} {i0 : Nat} {ks : List (Tmp × Kd)}, ObsX P ops a0 w0 g J exs fin i0 (czX exs i0) ks l →
    ∃ Ks : Nat → Kd, ∃ kz : Nat → List (Tmp × Kd), kz 0 = ks ∧ fin (kz l.length) ∧ ∀ i o, l[i]? = some o → ∃ t, o.dst = some t ∧ ((Ks i).Ok ∧ (lastX exs (i0 + i) = true ∨ (Ks i).OkX g)) ∧ Ob1X P ops a0 w0 g J (czX exs (i0 + i)) (exs.elem (i0 + i)) (kz i) o (Ks i) ∧ kz (i + 1) = (t, Ks i) :: kz i
  | [], i0, ks, h => ⟨fun _ => .v undef, fun _ => ks, rfl, h, fun i o ho => by simp at ho⟩
  | o :: rest, i0, ks, ⟨K, t, hd, hk, hob, hr⟩ => by
    have hr' : ObsX P ops a0 w0 g J exs fin (i0 + 1) (czX exs (i0 + 1)) ((t, K) :: ks) rest := hr
    obtain ⟨Ks, kz, h0, hf, hall⟩ := ObsX.out hr'
    refine ⟨fun i => match i with | 0 => K | i + 1 => Ks i, fun i => match i with | 0 => ks | i + 1 => kz i, rfl, hf, fun i o' ho' => ?_⟩
    cases i with
    | zero =>
      simp only [List.getElem?_cons_zero, Option.some.injEq] at ho'
      subst ho'
      exact ⟨t, hd, hk, hob, h0⟩
    | succ i =>
      have := hall i o' (by simpa using ho')
      rw [show i0 + 1 + i = i0 + (i + 1) from by omega] at this
      exact this
structure RInvX (ops : Array Oper) (a0 : Act) (w0 : World) (Ks : Nat → Kd) (m : Nat) (g : Nat) (J : Nat → World → Prop) (exs : List Nat) (listed : Array Bool) (a : Act) (w : World) : Prop where
  lsize : listed.size = ops.size
  defers : a.defers = a0.defers
  size : a.tmps.size = a0.tmps.size
  ext : w0.grownBy w (some g)
  cnt : ∃ c, c ≤ exs.length ∧ (∀ q, q < exs.length → listed.getD (exs.getD q 0) false = decide (q < c)) ∧ J c w
  other : ∀ t, (∀ j, j < m → dstOf ops j ≠ some t) → a.tmps.getD t undef = a0.tmps.getD t undef
  val : ∀ j t, j < m → listed.getD j false = true → dstOf ops j = some t → (Ks j).holds w (a.tmps.getD t undef)
  down : ∀ i o, ops[i]? = some o → listed.getD i false = true → ∀ e ∈ o.after, Region.binds .any e = true → listed.getD e.on false = true
section
variable {P : Program} {Q : Exit → Act → World → Prop}
/-- THE LAW. -/
theorem regionX {id : Nat} {l : List Oper} {a : Act} {w : World} (m : Nat) (exs : List Nat) (g : Nat) (J : Nat → World → Prop) (hm : P.follows .mixedOrders = true) (hchk : regB l.toArray m a.tmps.size = true) (hex : exB l.toArray m exs = true)
    (hJ0 : J 0 w) (hJs : ∀ c W W', J c W → Below W.heap.size W W' → J c W')
    (hobs : ObsX P l.toArray a w g J exs (fun ks => ∀ W, w.grownBy W (some g) → J exs.length W → finOn W ks (fun a' => wpList P l.toArray Q (l.drop m) a' W) a) 0 0 [] (l.take m)) :
    (Code.region id l.toArray true).wp P Q a w := by
  have R := regB_out hchk
  obtain ⟨ops, hops⟩ : ∃ ops, l.toArray = ops := ⟨_, rfl⟩
  have hl' : l = ops.toList := by rw [← hops]
  rw [hops] at hobs R hex ⊢
  rw [hl'] at hobs
  clear hops hl' hchk
  have hex' : ∀ q, q < exs.length → exs.getD q 0 < m ∧ czX exs (exs.getD q 0) = q ∧ (q = 0 ∨ ∃ o, ops[exs.getD q 0]? = some o ∧ hasOn o (exs.getD (q - 1) 0) = true) := by
    intro q hq
    have h := (List.all_eq_true.1 hex) q (List.mem_range.2 hq)
    simp only [Bool.and_eq_true, decide_eq_true_eq, beq_iff_eq, Bool.or_eq_true] at h
    refine ⟨h.1.1, h.1.2, h.2.imp (fun h => h) fun h2 => ?_⟩
    cases ho : ops[exs.getD q 0]? with
    | none => rw [ho] at h2; cases h2
    | some o => rw [ho] at h2; exact ⟨o, rfl, h2⟩
  have hidx : ∀ i, exs.elem i = true → ∃ q, q < exs.length ∧ exs.getD q 0 = i := by
    intro i hi
    obtain ⟨q, hq, e⟩ := List.mem_iff_getElem.1 (List.elem_iff.1 hi)
    exact ⟨q, hq, by rw [List.getD_eq_getElem?_getD, List.getElem?_eq_getElem hq]; exact e⟩
  have hmemE : ∀ q, q < exs.length → exs.elem (exs.getD q 0) = true := by
    intro q hq
    rw [List.elem_iff, List.getD_eq_getElem?_getD, List.getElem?_eq_getElem hq]
    exact List.getElem_mem hq
  obtain ⟨Ks, kz, hz0, hfin, hall⟩ := ObsX.out (i0 := 0) hobs
  simp only [Nat.zero_add] at hall
  have hmlen : (ops.toList.take m).length = m := by simp [R.le]
  rw [hmlen] at hfin
  have hat : ∀ i o, i < m → ops[i]? = some o → (ops.toList.take m)[i]? = some o := fun i o hi ho => by
    rw [List.getElem?_take, if_pos hi]; simpa using ho
  have hta : ∀ i o, (ops.toList.take m)[i]? = some o → i < m ∧ ops[i]? = some o := fun i o ho => by
    rw [List.getElem?_take] at ho
    split at ho
    · exact ⟨‹_›, by simpa using ho⟩
    · cases ho
  have hall2 : ∀ i o, (ops.toList.take m)[i]? = some o → ∃ t, o.dst = some t ∧ kz (i + 1) = (t, Ks i) :: kz i := fun i o ho => by
    obtain ⟨t, h1, _, _, h2⟩ := hall i o ho
    exact ⟨t, h1, h2⟩
  have hmem : ∀ i, i ≤ m → ∀ t K, (t, K) ∈ kz i → ∃ j, j < i ∧ dstOf ops j = some t ∧ K = Ks j := fun i hi t K hm => by
    obtain ⟨j, o, h1, h2, h3, h4⟩ := kz_mem hz0 hall2 i (by omega) t K hm
    obtain ⟨_, ho⟩ := hta j o h2
    exact ⟨j, h1, by unfold dstOf; rw [ho]; exact h3, h4⟩
  refine wp_region_any hm ?_
  have hd : ∀ i o, ops[i]? = some o → dstOf ops i = o.dst := fun i o ho => by unfold dstOf; rw [ho]; rfl
  have hend : ∀ (listed : Array Bool) (a' : Act) (w' : World), RInvX ops a w Ks m g J exs listed a' w' → (∀ j, j < m → listed.getD j false = true) → wpList P ops Q (ops.toList.drop m) a' w' := by
    intro listed a' w' hI hlst
    have HJX : J exs.length w' := by
      obtain ⟨c, hc, hq, hj⟩ := hI.cnt
      have : c = exs.length := by
        rcases Nat.lt_or_ge c exs.length with hlt | hge
        · have h1 := hq c hlt
          rw [hlst _ (hex' c hlt).1] at h1
          simp at h1
        · omega
      rw [← this]; exact hj
    obtain ⟨b, hb, e1, e2, e3, e4⟩ := finOn.out (a' := a') (hfin w' hI.ext HJX) hI.size.symm (fun t K hm => by
      obtain ⟨j, hj, hdj, rfl⟩ := hmem m (Nat.le_refl _) t K hm
      obtain ⟨o, ho, hod⟩ := dstOf_some hdj
      obtain ⟨s, hs, hsn, _⟩ := R.main j o hj ho
      rw [hod] at hs
      injection hs with hs
      subst hs
      exact ⟨by rw [hI.size]; exact hsn, hI.val j t hj (hlst j hj) hdj⟩)
    have : b = a' := by
      cases b with
      | mk bt bd =>
        cases a' with
        | mk at' ad =>
          simp only at e1 e2 e3 e4
          have hdf : bd = ad := by rw [e2]; exact hI.defers.symm
          have htm : bt = at' := by
            apply Array.ext
            · rw [e1]; exact hI.size.symm
            · intro t t1 t2
              have : bt.getD t undef = at'.getD t undef := by
                by_cases hx : ∃ K, (t, K) ∈ kz m
                · exact e4 t hx
                · rw [e3 t (fun K hm => hx ⟨K, hm⟩)]
                  refine (hI.other t fun j hj hdj => hx ?_).symm
                  obtain ⟨o, ho, hod⟩ := dstOf_some hdj
                  exact ⟨Ks j, kz_all hall2 m (by omega) j o t hj (hat j o hj ho) hod⟩
              simpa only [Array.getD_eq_getD_getElem?, Array.getElem?_eq_getElem t1, Array.getElem?_eq_getElem t2, Option.getD_some] using this
          subst hdf htm
          rfl
    rw [this] at hb
    exact hb
  have key : ∀ (fuel : Nat) (listed : Array Bool) (a' : Act) (w' : World), RInvX ops a w Ks m g J exs listed a' w' → (∀ i, m ≤ i → i < ops.size → listed.getD i false = false) →
      ((List.range ops.size).filter fun i => !listed.getD i true).length ≤ fuel → wpAny P .any ops Q fuel listed a' w' := by
    intro fuel
    have hprefix : ∀ (listed : Array Bool), listed.size = ops.size → (∀ j, j < m → listed.getD j false = true) → (∀ i, m ≤ i → i < ops.size → listed.getD i false = false) → ∀ i, i < ops.size → listed.getD i false = decide (i < m) := by
      intro listed hs h1 h2 i hi
      by_cases e : i < m
      · rw [h1 i e]; simp [e]
      · rw [h2 i (by omega) hi]; simp [e]
    induction fuel with
    | zero =>
      intro listed a' w' hI hno hc
      have h0 : ((List.range ops.size).filter fun i => !listed.getD i true) = [] := List.eq_nil_of_length_eq_zero (by omega)
      have hal : ∀ i, i < ops.size → listed.getD i false = true := by
        intro i hi
        rw [List.filter_eq_nil_iff] at h0
        have := h0 i (List.mem_range.2 hi)
        rw [← getD_ff (by rw [hI.lsize]; exact hi)]
        simpa using this
      have hms : m = ops.size := by
        rcases Nat.lt_or_ge m ops.size with hlt | hge
        · have := hno m (Nat.le_refl _) hlt
          rw [hal m hlt] at this
          cases this
        · have := R.le; omega
      have := hend listed a' w' hI (fun j hj => hal j (by omega))
      rw [hms] at this
      have hdr : ops.toList.drop ops.size = [] := by simp
      rw [hdr] at this
      refine ⟨?_, this⟩
      unfold Region.ready
      rw [List.filter_eq_nil_iff] at h0 ⊢
      intro i hi
      have := h0 i hi
      simp only [Bool.not_eq_true] at this ⊢
      rw [this]
      rfl
    | succ fuel ih =>
      intro listed a' w' hI hno hc
      by_cases hdone : ∀ j, j < m → listed.getD j false = true
      · refine tail_any R (fuel + 1) m listed a' w' (Nat.le_refl _) R.le hI.lsize (hprefix listed hI.lsize hdone hno) ?_ (hend listed a' w' hI hdone)
        have hlen : ops.size - m ≤ ((List.range ops.size).filter fun i => !listed.getD i true).length := by
          have hsub : (List.range ops.size).filter (fun i => decide (m ≤ i)) = (List.range ops.size).filter fun i => !listed.getD i true := by
            apply List.filter_congr
            intro i hi
            have hi := List.mem_range.1 hi
            rw [getD_ff (by rw [hI.lsize]; exact hi), hprefix listed hI.lsize hdone hno i hi]
            by_cases e : i < m <;> simp [e] <;> omega
          rw [← hsub]
          have : ∀ N, m ≤ N → ((List.range N).filter fun i => decide (m ≤ i)).length = N - m := by
            intro N hN
            induction N with
            | zero => simp
            | succ N ihN =>
              rw [List.range_succ, List.filter_append, List.length_append]
              by_cases e : m ≤ N
              · rw [ihN e]; simp [e]; omega
              · have : m = N + 1 := by omega
                subst this
                have : (List.range N).filter (fun i => decide (N + 1 ≤ i)) = [] := by
                  rw [List.filter_eq_nil_iff]
                  intro i hi
                  have := List.mem_range.1 hi
                  simp; omega
                rw [this]
                simp
          rw [this _ R.le]
          exact Nat.le_refl _
        omega
      · refine ⟨fun hr => ?_, fun i hi => ?_⟩
        · exfalso
          refine hdone ?_
          intro j
          induction j using Nat.strongRecOn with
          | _ j ihj =>
            intro hj
            cases hlj : listed.getD j false with
            | true => rfl
            | false =>
              exfalso
              have hjs : j < ops.size := by have := R.le; omega
              have hmem : j ∈ Region.ready .any ops listed := by
                rw [mem_ready]
                refine ⟨by rw [getD_ff (by rw [hI.lsize]; exact hjs)]; exact hlj, ops[j], Array.getElem?_eq_getElem hjs, fun e he hb => ?_⟩
                have := R.down j _ (Array.getElem?_eq_getElem hjs) e he hb
                exact ihj _ this (by omega)
              rw [hr] at hmem
              cases hmem
        · have hi0 := hi
          rw [mem_ready] at hi
          obtain ⟨hnl', o, ho, haf⟩ := hi
          have his : i < ops.size := (Array.getElem?_eq_some_iff.1 ho).1
          have hsi : i < listed.size := by rw [hI.lsize]; exact his
          have him : i < m := by
            rcases Nat.lt_or_ge i m with hlt | hge
            · exact hlt
            · exact absurd (fun j hj => all_before R hI.down hge ho haf (i - j - 1) j (by omega)) hdone
          obtain ⟨t, ht, htn, hne, hsel, hrd, hgd⟩ := R.main i o him ho
          obtain ⟨t', ht', hok, hob, hkz⟩ := hall i o (hat i o him ho)
          have hon : ∀ j, hasOn o j = true → listed.getD j false = true := fun j hj => by
            obtain ⟨e, he, heo, heb⟩ := hasOn_mem hj
            rw [← heo]
            exact haf e he heb
          have hnext : ∀ v w'', (Ks i).holds w'' v → w'.grownBy w'' (some g) → (∀ j, j < m → listed.getD j false = true → ∀ u, (Ks j).holds w' u → (Ks j).holds w'' u) → (∃ c, c ≤ exs.length ∧ (∀ q, q < exs.length → (listed.setIfInBounds i true).getD (exs.getD q 0) false = decide (q < c)) ∧ J c w'') → wpAny P .any ops Q fuel (listed.setIfInBounds i true) (a'.put o.dst v) w'' := by
            intro v w'' hv hb hkeep hcn
            refine ih _ _ _ ⟨by simpa using hI.lsize, ?_, ?_, ext_trans hI.ext hb, hcn, ?_, ?_, ?_⟩ ?_ ?_
            · rw [ht]; exact hI.defers
            · rw [ht]; simpa [Act.put] using hI.size
            · intro s hs
              have hst : s ≠ t := fun e => hs i him (by rw [hd i _ ho, ht, e])
              rw [ht, put_getD (by rw [hI.size]; exact htn), if_neg hst]
              exact hI.other s hs
            · intro j s hjm hj hdj
              rw [getD_set hsi] at hj
              rw [ht, put_getD (by rw [hI.size]; exact htn)]
              by_cases e : j = i
              · subst e
                have : s = t := by rw [hd j _ ho, ht] at hdj; injection hdj with hdj; exact hdj.symm
                rw [if_pos this]
                exact hv
              · rw [if_neg e] at hj
                have hst : s ≠ t := fun e2 => e (dst_inj R hjm him hdj (by rw [hd i _ ho, ht, e2]))
                rw [if_neg hst]
                exact hkeep j hjm hj _ (hI.val j s hjm hj hdj)
            · intro q oq hq hlq e he hb
              rw [getD_set hsi] at hlq ⊢
              by_cases e1 : q = i
              · subst e1
                rw [ho] at hq
                injection hq with hq
                subst hq
                split
                · rfl
                · exact haf e he hb
              · rw [if_neg e1] at hlq
                split
                · rfl
                · exact hI.down q oq hq hlq e he hb
            · intro q hq hqs
              rw [getD_set hsi, if_neg (by omega)]
              exact hno q hq hqs
            · have hnl : (!listed.getD i true) = true := by rw [hnl']; rfl
              have hlt : ((List.range ops.size).filter fun k => !(listed.setIfInBounds i true).getD k true).length < ((List.range ops.size).filter fun k => !listed.getD k true).length := by
                have hsub : ((List.range ops.size).filter fun k => !(listed.setIfInBounds i true).getD k true) = (((List.range ops.size).filter fun k => !listed.getD k true).filter fun k => k != i) := by
                  rw [List.filter_filter]
                  apply List.filter_congr
                  intro k _
                  rw [getD_set hsi]
                  by_cases e : k = i
                  · subst e; simp
                  · simp [e]
                rw [hsub]
                exact List.length_filter_lt_length_iff_exists.2 ⟨i, List.mem_filter.2 ⟨List.mem_range.2 his, hnl⟩, by simp⟩
              omega
          have hlook : ∀ s K, lookK (kz i) s = some K → ∃ j, j < i ∧ dstOf ops j = some s ∧ K = Ks j := fun s K hK => hmem i (by omega) s K (lookK_some hK)
          have hokj : ∀ j, j < m → (Ks j).Ok ∧ (lastX exs j = true ∨ (Ks j).OkX g) := by
            intro j hj
            have hjs : j < ops.size := by have := R.le; omega
            obtain ⟨_, _, h1, _⟩ := hall j ops[j] (hat j _ hj (Array.getElem?_eq_getElem hjs))
            exact h1
          have hkN : ∀ w'', Below w'.heap.size w' w'' → ∀ j, j < m → listed.getD j false = true → ∀ u, (Ks j).holds w' u → (Ks j).holds w'' u := fun w'' hB j hj _ u hu => Kd.keep (hokj j hj).1 hu hB
          have hcntN : exs.elem i = false → ∀ w'', Below w'.heap.size w' w'' → ∃ c, c ≤ exs.length ∧ (∀ q, q < exs.length → (listed.setIfInBounds i true).getD (exs.getD q 0) false = decide (q < c)) ∧ J c w'' := by
            intro hx w'' hB
            obtain ⟨c, hc, hq, hj⟩ := hI.cnt
            refine ⟨c, hc, fun q hql => ?_, hJs c _ _ hj hB⟩
            rw [getD_set hsi, if_neg (fun e => by have h1 := hmemE q hql; rw [e, hx] at h1; cases h1)]
            exact hq q hql
          unfold wpOp
          rw [ho]
          rcases hob with ⟨hxx, hwk, hgo⟩ | ⟨hxx, hwk, hgo⟩ | ⟨hxx, hwk, hskip⟩
          · have hw : Region.wanted o (yielded ops a'.tmps) = true := by
              unfold Region.wanted
              cases hg : o.guard with
              | none => rfl
              | some gb =>
                obtain ⟨g, b⟩ := gb
                rw [hg] at hwk
                unfold wantK at hwk
                simp only at hwk
                cases hdg : dstOf ops g with
                | none => rw [hdg] at hwk; cases hwk
                | some s =>
                  rw [hdg] at hwk
                  cases hlk : lookK (kz i) s with
                  | none => simp only [hlk] at hwk; cases hwk
                  | some K =>
                    simp only [hlk] at hwk
                    split at hwk
                    · rename_i hKe
                      injection hKe with hKe
                      subst hKe
                      rename_i c
                      obtain ⟨j, hj, hdj, hKj⟩ := hlook s _ hlk
                      obtain ⟨hong, hgi⟩ := hgd g b hg
                      obtain rfl := dst_inj R (by omega) (by omega) hdj hdg
                      have hv := hI.val j s (by omega) (hon j hong) hdj
                      rw [← hKj] at hv
                      have hy : yielded ops a'.tmps j = some c := by
                        have hv' : a'.tmps.getD s undef = .bool c := hv
                        unfold yielded
                        unfold dstOf at hdj
                        rw [hdj]
                        rw [Array.getD_eq_getD_getElem?] at hv'
                        cases hx : a'.tmps[s]? with
                        | none => rw [hx] at hv'; exact absurd hv' (by simp [undef])
                        | some x =>
                          rw [hx] at hv'
                          simp only [Option.getD_some] at hv'
                          subst hv'
                          simp [hx]
                      simp only [hy]
                      injection hwk
                    · cases hwk
            simp only [hw, if_true]
            refine .inl ?_
            obtain ⟨b, hb, b1, b2, b3, b4⟩ := leanOn.out (a' := a') (hgo w' hI.ext) hI.size.symm (fun s K hs hK => by
              obtain ⟨j, hj, hdj, rfl⟩ := hlook s K hK
              obtain ⟨o2, ho2, hod2⟩ := dstOf_some hdj
              obtain ⟨s2, hs2, hsn, _⟩ := R.main j o2 (by omega) ho2
              rw [hod2] at hs2
              injection hs2 with hs2
              subst hs2
              obtain ⟨ha, _⟩ := hrd s (by simpa using hs) j (by omega) hdj
              exact ⟨by rw [hI.size]; exact hsn, hI.val j s (by omega) (hon j ha) hdj⟩)
            have heq : execOp a'.eval o = execOp b.eval o := by
              refine execOp_congr o (fun cs bb hc => by rw [hc] at hsel; cases hsel) fun x hx => ?_
              cases x with
              | tmp s =>
                show a'.tmps.getD s undef = b.tmps.getD s undef
                by_cases hks : ∃ K, lookK (kz i) s = some K
                · obtain ⟨K, hK⟩ := hks
                  exact (b4 s ⟨K, hK, by simpa using hx⟩).symm
                · have ho2 : ∀ j, j < m → dstOf ops j ≠ some s := by
                    intro j hj hdj
                    obtain ⟨_, hji⟩ := hrd s hx j hj hdj
                    obtain ⟨oj, hoj, hdoj⟩ := dstOf_some hdj
                    have := kz_all hall2 i (by omega) j oj s hji (hat j oj hj hoj) hdoj
                    cases hl : lookK (kz i) s with
                    | some K => exact hks ⟨K, hl⟩
                    | none => exact lookK_none hl _ this
                  have e0 := hI.other s ho2
                  rcases b3 s with e | e
                  · rw [e, e0]
                  · exact e.symm
              | const _ => rfl
              | global _ => rfl
              | func _ => rfl
            have hgoes := hb.out
            unfold Oper.wp
            rw [heq]
            generalize (execOp b.eval o).run P w' = r at hgoes
            cases r with
            | ok n w'' =>
              cases n <;> simp only [OpGoes] at hgoes <;> try exact hgoes.elim
              case value v => exact hnext v w'' hgoes.1 (ext_below hgoes.2) (hkN _ hgoes.2) (hcntN hxx _ hgoes.2)
              case enter f args =>
                refine Calls.mono hgoes ?_
                rintro e w3 ⟨v, rfl, hv, hb⟩
                exact hnext v w3 hv (ext_below hb) (hkN _ hb) (hcntN hxx _ hb)
            | halt x w'' => exact hgoes.elim
          · obtain ⟨q, hql, hqe⟩ := hidx i hxx
            obtain ⟨c, hc, hqs, hj⟩ := hI.cnt
            obtain ⟨hq1, hq2, hq3⟩ := hex' q hql
            have hqc : q = c := by
              have h1 := hqs q hql
              rw [hqe, ← getD_ff hsi, hnl'] at h1
              have h2 : ¬ q < c := by simpa using h1.symm
              rcases hq3 with h3 | ⟨o3, ho3, hh3⟩
              · omega
              · rw [hqe, ho] at ho3
                injection ho3 with ho3
                subst ho3
                have h4 := hon _ hh3
                by_cases h0 : q = 0
                · omega
                · rw [hqs (q - 1) (by omega)] at h4
                  have : q - 1 < c := by simpa using h4
                  omega
            rw [hqe] at hq2
            rw [hq2, hqc] at hgo
            have hkE : ∀ w'', w'.grownBy w'' (some g) → ∀ j, j < m → listed.getD j false = true → ∀ u, (Ks j).holds w' u → (Ks j).holds w'' u := by
              intro w'' hE j hjm hjl u hu
              rcases (hokj j hjm).2 with h1 | h1
              · exfalso
                have hlast : j = exs.getD (exs.length - 1) 0 := by
                  unfold lastX at h1
                  rw [List.getLast?_eq_getElem?, List.getElem?_eq_getElem (by omega)] at h1
                  rw [List.getD_eq_getElem?_getD, List.getElem?_eq_getElem (by omega)]
                  simp only [beq_iff_eq] at h1
                  exact h1.symm
                rw [hlast, hqs _ (by omega)] at hjl
                have : exs.length - 1 < c := by simpa using hjl
                omega
              · exact Kd.keepX h1 hu hE
            have hcntE : ∀ w'', J (c + 1) w'' → ∃ c, c ≤ exs.length ∧ (∀ q, q < exs.length → (listed.setIfInBounds i true).getD (exs.getD q 0) false = decide (q < c)) ∧ J c w'' := by
              intro w'' hj2
              refine ⟨c + 1, by omega, fun p hp => ?_, hj2⟩
              rw [getD_set hsi]
              by_cases e : exs.getD p 0 = i
              · have hp2 := (hex' p hp).2.1
                rw [e, hq2] at hp2
                rw [if_pos e]
                have : p < c + 1 := by omega
                simp [this]
              · rw [if_neg e, hqs p hp]
                have hpq : p ≠ q := fun h => e (by rw [h]; exact hqe)
                by_cases hpc : p < c
                · simp [hpc, Nat.lt_succ_of_lt hpc]
                · have : ¬ p < c + 1 := by omega
                  simp [hpc, this]
            have hw : Region.wanted o (yielded ops a'.tmps) = true := by
              unfold Region.wanted
              cases hg : o.guard with
              | none => rfl
              | some gb =>
                obtain ⟨g, b⟩ := gb
                rw [hg] at hwk
                unfold wantK at hwk
                simp only at hwk
                cases hdg : dstOf ops g with
                | none => rw [hdg] at hwk; cases hwk
                | some s =>
                  rw [hdg] at hwk
                  cases hlk : lookK (kz i) s with
                  | none => simp only [hlk] at hwk; cases hwk
                  | some K =>
                    simp only [hlk] at hwk
                    split at hwk
                    · rename_i hKe
                      injection hKe with hKe
                      subst hKe
                      rename_i c
                      obtain ⟨j, hj, hdj, hKj⟩ := hlook s _ hlk
                      obtain ⟨hong, hgi⟩ := hgd g b hg
                      obtain rfl := dst_inj R (by omega) (by omega) hdj hdg
                      have hv := hI.val j s (by omega) (hon j hong) hdj
                      rw [← hKj] at hv
                      have hy : yielded ops a'.tmps j = some c := by
                        have hv' : a'.tmps.getD s undef = .bool c := hv
                        unfold yielded
                        unfold dstOf at hdj
                        rw [hdj]
                        rw [Array.getD_eq_getD_getElem?] at hv'
                        cases hx : a'.tmps[s]? with
                        | none => rw [hx] at hv'; exact absurd hv' (by simp [undef])
                        | some x =>
                          rw [hx] at hv'
                          simp only [Option.getD_some] at hv'
                          subst hv'
                          simp [hx]
                      simp only [hy]
                      injection hwk
                    · cases hwk
            simp only [hw, if_true]
            refine .inl ?_
            obtain ⟨b, hb, b1, b2, b3, b4⟩ := leanOn.out (a' := a') (hgo w' hI.ext hj) hI.size.symm (fun s K hs hK => by
              obtain ⟨j, hj, hdj, rfl⟩ := hlook s K hK
              obtain ⟨o2, ho2, hod2⟩ := dstOf_some hdj
              obtain ⟨s2, hs2, hsn, _⟩ := R.main j o2 (by omega) ho2
              rw [hod2] at hs2
              injection hs2 with hs2
              subst hs2
              obtain ⟨ha, _⟩ := hrd s (by simpa using hs) j (by omega) hdj
              exact ⟨by rw [hI.size]; exact hsn, hI.val j s (by omega) (hon j ha) hdj⟩)
            have heq : execOp a'.eval o = execOp b.eval o := by
              refine execOp_congr o (fun cs bb hc => by rw [hc] at hsel; cases hsel) fun x hx => ?_
              cases x with
              | tmp s =>
                show a'.tmps.getD s undef = b.tmps.getD s undef
                by_cases hks : ∃ K, lookK (kz i) s = some K
                · obtain ⟨K, hK⟩ := hks
                  exact (b4 s ⟨K, hK, by simpa using hx⟩).symm
                · have ho2 : ∀ j, j < m → dstOf ops j ≠ some s := by
                    intro j hj hdj
                    obtain ⟨_, hji⟩ := hrd s hx j hj hdj
                    obtain ⟨oj, hoj, hdoj⟩ := dstOf_some hdj
                    have := kz_all hall2 i (by omega) j oj s hji (hat j oj hj hoj) hdoj
                    cases hl : lookK (kz i) s with
                    | some K => exact hks ⟨K, hl⟩
                    | none => exact lookK_none hl _ this
                  have e0 := hI.other s ho2
                  rcases b3 s with e | e
                  · rw [e, e0]
                  · exact e.symm
              | const _ => rfl
              | global _ => rfl
              | func _ => rfl
            have hgoes := hb.out
            unfold Oper.wp
            rw [heq]
            generalize (execOp b.eval o).run P w' = r at hgoes
            cases r with
            | ok n w'' =>
              cases n <;> simp only [OpGoes] at hgoes <;> try exact hgoes.elim
              case value v => exact hnext v w'' hgoes.1 hgoes.2.1 (hkE _ hgoes.2.1) (hcntE _ hgoes.2.2)
              case enter f args =>
                refine Calls.mono hgoes ?_
                rintro e w3 ⟨v, rfl, hv, hb, hj3⟩
                exact hnext v w3 hv hb (hkE _ hb) (hcntE _ hj3)
            | halt x w'' => exact hgoes.elim
          · have hw : Region.wanted o (yielded ops a'.tmps) = false := by
              unfold Region.wanted
              cases hg : o.guard with
              | none => rw [hg] at hwk; cases hwk
              | some gb =>
                obtain ⟨g, b⟩ := gb
                rw [hg] at hwk
                unfold wantK at hwk
                simp only at hwk
                cases hdg : dstOf ops g with
                | none => rw [hdg] at hwk; cases hwk
                | some s =>
                  rw [hdg] at hwk
                  cases hlk : lookK (kz i) s with
                  | none => simp only [hlk] at hwk; cases hwk
                  | some K =>
                    simp only [hlk] at hwk
                    split at hwk
                    · rename_i hKe
                      injection hKe with hKe
                      subst hKe
                      rename_i c
                      obtain ⟨j, hj, hdj, hKj⟩ := hlook s _ hlk
                      obtain ⟨hong, hgi⟩ := hgd g b hg
                      obtain rfl := dst_inj R (by omega) (by omega) hdj hdg
                      have hv := hI.val j s (by omega) (hon j hong) hdj
                      rw [← hKj] at hv
                      have hy : yielded ops a'.tmps j = some c := by
                        have hv' : a'.tmps.getD s undef = .bool c := hv
                        unfold yielded
                        unfold dstOf at hdj
                        rw [hdj]
                        rw [Array.getD_eq_getD_getElem?] at hv'
                        cases hx : a'.tmps[s]? with
                        | none => rw [hx] at hv'; exact absurd hv' (by simp [undef])
                        | some x =>
                          rw [hx] at hv'
                          simp only [Option.getD_some] at hv'
                          subst hv'
                          simp [hx]
                      simp only [hy]
                      injection hwk
                    · cases hwk
            simp only [hw]
            exact hnext _ _ (by rw [hskip]; rfl) (ext_refl _ _) (hkN _ (Below.refl _ _)) (hcntN hxx _ (Below.refl _ _))
  refine key ops.size _ a _ ⟨by simp, rfl, rfl, ext_below (Below.drew (Below.refl _ _)), ⟨0, Nat.zero_le _, fun q _ => by simp [Array.getD_eq_getD_getElem?, Array.getElem?_replicate]; split <;> simp, hJs 0 _ _ hJ0 (Below.drew (Below.refl _ _))⟩, fun _ _ => rfl, fun j t _ hj => ?_, fun i o _ hj => ?_⟩ ?_ ?_
  · exfalso
    revert hj
    simp only [Array.getD_eq_getD_getElem?, Array.getElem?_replicate]
    split <;> simp
  · exfalso
    revert hj
    simp only [Array.getD_eq_getD_getElem?, Array.getElem?_replicate]
    split <;> simp
  · intro i _ hi
    simp [Array.getD_eq_getD_getElem?, Array.getElem?_replicate, hi]
  · exact Nat.le_trans (List.length_filter_le _ _) (by simp)
end
end Go.Proofs.Ytjjhnjkmoogloaa

/- What stays where one block is written: rows elsewhere; an append onto the row itself. -/
namespace Go.Proofs.Ytjjhnjkmoogloaa
open Go.RowKit
set_option linter.unusedVariables false
set_option linter.unusedSimpArgs false

theorem below_ext {B : Nat} {a b c : World} {g : Nat} (h : Below B a b) (hE : b.grownBy c (some g)) (hg : B ≤ g) (hB : B ≤ b.heap.size) : Below B a c := h.grown hE hB (fun k e => by injection e with e; omega)
/-- Bytes in another block than g. -/
def isN (g n : Nat) (l : List UInt8) : World → Value → Prop := fun W v => ∃ A c, v = .slice A n c ∧ Bs W A n c l ∧ ∀ a, A = some a → a.block ≠ g ∧ a.block < W.heap.size
theorem st_isN {g n : Nat} {l : List UInt8} : ∀ w w' v, isN g n l w v → Below w.heap.size w w' → isN g n l w' v := fun _ _ _ ⟨A, c, e, k, h⟩ hb => ⟨A, c, e, k.below hb, fun a e => ⟨(h a e).1, Nat.lt_of_lt_of_le (h a e).2 hb.size⟩⟩
theorem sx_isN {g n : Nat} {l : List UInt8} : ∀ w w' v, isN g n l w v → w.grownBy w' (some g) → isN g n l w' v := fun w w' _ ⟨A, c, e, k, h⟩ hE =>
  ⟨A, c, e, ⟨k.len, k.cap, k.max, k.nil, fun hn => by
    obtain ⟨b, off, eA, hc⟩ := k.rd hn
    have hb := h _ eA
    refine ⟨b, off, eA, fun j hj => ?_⟩
    rw [← hc j hj]
    unfold World.cell?
    rw [hE.block b hb.2 (by intro e; injection e with e; exact hb.1 e)]⟩, fun a e => ⟨(h a e).1, Nat.lt_of_lt_of_le (h a e).2 hE.size⟩⟩
theorem sx_isW {g B : Nat} {l : List UInt8} (hg : g < B) : ∀ w w' v, isW B l w v → w.grownBy w' (some g) → isW B l w' v := fun _ _ _ ⟨A, n, c, e, k⟩ hE => ⟨A, n, c, e, k.far hE (fun k e => by injection e with e; omega)⟩
theorem goes_litN {g n : Nat} {W : World} {l : List UInt8} {cs : Array Value} (hc : (cu l).toArray = cs) (hn : l.length = n) (hm : n ≤ 200000000000000) (hg : g < W.heap.size) :
    OpGoes Try.prog (fun v w' => (Kd.p (isN g n l)).holds w' v ∧ Below W.heap.size W w') (.ok (.value (.slice (some ⟨W.heap.size, 0, none⟩) n n)) (W.alloc (.cells cs 5))) := by
  subst hc
  exact ⟨⟨_, _, rfl, bs_lit l n hn hm, fun a e => by injection e with e; subst e; simp; omega⟩, (Below.refl _ W).alloc (Nat.le_refl _) _⟩
theorem goes_appX {o : Oper} {a : Act} {W : World} {g : Nat} (s x : Operand) (ho : o.op = .call { callee := .builtin .append, args := #[s, x], argTypes := #[24, 24] }) {B n c : Nat} {A : Option Addr} {l : List UInt8} (hs : a.eval s = .slice A n c)
    (hown : Own W B 5 A n c l) (hg : ∀ k, (Value.slice A n c).ownBlock = some k → k = g) {A2 : Option Addr} {n2 c2 : Nat} {l2 : List UInt8} (hx : a.eval x = .slice A2 n2 c2) (hr : Bs W A2 n2 c2 l2) (hmax : n + n2 ≤ 200000000000000) (hB : B ≤ W.heap.size) {J : World → Prop} (hJ : ∀ w', J w') :
    OpGoes Try.prog (fun v w' => (Kd.p (isW B (l ++ l2))).holds w' v ∧ W.grownBy w' (some g) ∧ J w') ((execOp a.eval o).run Try.prog W) := by
  obtain ⟨A', c', w', hrun, hown', hgr⟩ := run_append_bs (P := Try.prog) W B 24 o.type 5 Try.underlying24 info_u8 A n c l hown A2 n2 c2 l2 hr hmax hB
  unfold execOp
  simp only [ho, resolve, invoke, builtin, Sem.run_bind, Sem.run_pure, Result.andThen_ok, List.map_toArray, List.map_cons, List.map_nil, hs, hx, hrun]
  refine ⟨⟨A', _, c', rfl, hown'⟩, ⟨hgr.os, hgr.tape, hgr.output, hgr.size, fun k hk hne => hgr.block k hk ?_⟩, hJ _⟩
  intro e
  exact hne (by rw [hg k e.symm])
end Go.Proofs.Ytjjhnjkmoogloaa

/- Stores, and orders drawn. -/
namespace Go.Proofs.Ytjjhnjkmoogloaa
open Go.RowKit
theorem Sto.drew {W : World} {r : Nat} {wf : World} {cs : Array Value} {t : TypeId} (h : Sto W r wf cs t) : Sto W r wf.drew cs t :=
  ⟨h.blk.drew, fun b hB => below_drew (h.bel b hB), fun b ha => (h.bs b ha).drew, fun hk b => (h.other hk b).drew, fun b ha => (h.own b ha).drew⟩
end Go.Proofs.Ytjjhnjkmoogloaa

/- What an argument's reading gives the walks, and the row's last step for a law whose arguments stay. -/
namespace Go.Proofs.Ytjjhnjkmoogloaa
open Go.ChangeShapes Go.WideShapes Go.ChangeAt Go.RowKit
set_option linter.unusedVariables false

theorem own_knob : ownKnob Try.prog.godebug = none := by kernel_rfl
theorem laid_out : laidOutB Try.prog = true := by kernel_rfl
section
variable {H : Type} {enc : TypeId × Value → H} {P : Program} {w : World} {base : Nat} {held : Bool} {spare : Nat → Bool}
/-- A slice of bytes that came in, opened. -/
theorem open_bs {t e : TypeId} {fuel : Nat} {v : Value} {x : DataW H × List MemPlace} (ht : P.underlying t = some (.slice e)) (he : P.underlying e = some (.int .u8)) (hc : P.cellsOf e = 1)
    (h : DataW.trod enc P w base spare held fuel t [v] = some x) :
    ∃ A n c l, v = .slice A n c ∧ (n ≤ 200000000000000 → Bs w A n c l) ∧ ((x.1 = .nil ∧ n = 0) ∨ ∃ es sp, x.1 = .slice es sp ∧ es.length = n) := by
  rcases open_ints ht he hc h with ⟨hcs, rfl⟩ | ⟨a, len, cap, zs, hcs, _, hl, hm, hz, rfl, hcell, hwz⟩
  · simp only [List.cons.injEq, and_true] at hcs
    subst hcs
    exact ⟨none, 0, 0, [], rfl, fun _ => Bs.none_ w, .inl ⟨rfl, rfl⟩⟩
  · simp only [List.cons.injEq, and_true] at hcs
    subst hcs
    have hzl : len ≤ zs.length := by rw [hz]; split <;> omega
    have hlen : ((zs.take len).map ub).length = len := by simp; omega
    refine ⟨some a, len, cap, (zs.take len).map ub, rfl, fun hn => ⟨hlen, hl, hn, (fun h => by cases h), fun h0 => ?_⟩, .inr ⟨_, _, rfl, by simp [lits]; omega⟩⟩
    obtain ⟨b, off, spot⟩ := a
    have hc0 := hcell 0 (by omega)
    have hspot : spot = none := by simpa [Addr.add] using World.cell?_spot hc0
    subst hspot
    refine ⟨b, off, rfl, fun j hj => ?_⟩
    have h1 := hcell j (by omega)
    have ha : (⟨b, off, none⟩ : Addr).add j = ⟨b, off + j, none⟩ := by unfold Addr.add; split <;> simp_all
    rw [ha] at h1
    rw [h1]
    have hb : 0 ≤ zs.getD j 0 ∧ zs.getD j 0 ≤ 255 := by
      have hmem : zs.getD j 0 ∈ zs := by
        rw [List.getD_eq_getElem?_getD, List.getElem?_eq_getElem (by omega)]
        exact List.getElem_mem _
      simpa [Lit.wf, IntKind.min, IntKind.max, IntKind.signed, IntKind.bits] using hwz _ hmem
    have e : zs.getD j 0 = bt ((zs.take len).map ub) j := by
      have hj' : j < zs.length := by omega
      have e1 : zs.getD j 0 = zs[j] := by rw [List.getD_eq_getElem?_getD, List.getElem?_eq_getElem hj']; rfl
      have e2 : ((zs.take len).map ub).getD j 0 = ub zs[j] := by
        rw [List.getD_eq_getElem?_getD, List.getElem?_map, List.getElem?_take, if_pos hj, List.getElem?_eq_getElem hj']
        rfl
      unfold bt
      rw [e2, ub_val, e1]
      rw [e1] at hb
      omega
    rw [e]

/-- An array of whole numbers that came in, opened. -/
theorem open_arr {r : Reach} {b0 : Nat} {t e : TypeId} {k : IntKind} {n : Nat} {v : Value} {d : DataW H} {ps : List MemPlace} (ht : P.underlying t = some (.array n e)) (he : P.underlying e = some (.int k)) (hc : P.cellsOf e = 1) (hn : P.cellsOf t = n)
    (hval : Value.okWide P w r b0 t v) (hd : DataW.Trod enc P w base spare held t v d ps) :
    ∃ f : Nat → Int, v = .agg ((List.range n).map fun i => Value.int k (f i)).toArray ∧ ∀ i, i < n → (Lit.int k (f i)).wf = true := by
  unfold Value.okWide at hval
  rw [ht] at hval
  obtain ⟨cs, rfl, hcs, _⟩ := hval
  obtain ⟨fuel, hf⟩ := hd
  obtain ⟨xs, m, rfl, hx, hl, hxl, hi⟩ := DataW.trod_array ht hf
  have key : ∀ i, i < n → ∃ a, cs[i]? = some (.int k a) ∧ (Lit.int k a).wf = true := by
    intro i hin
    have h1 := hi i hin
    rw [List.getElem?_eq_getElem (by omega), hc] at h1
    obtain ⟨a, h2, _, hw⟩ := DataW.trod_int he h1
    have h3 : (((Value.agg cs).cells.toList.drop (i * 1)).take 1)[0]? = some (.int k a) := by rw [h2]; rfl
    refine ⟨a, ?_, hw⟩
    simpa [Value.cells, List.getElem?_take, List.getElem?_drop] using h3
  refine ⟨fun i => if h : i < n then (key i h).choose else 0, ?_, fun i hin => by simp only [dif_pos hin]; exact (key i hin).choose_spec.2⟩
  congr 1
  apply Array.ext_getElem?
  intro i
  by_cases hin : i < n
  · rw [(key i hin).choose_spec.1]
    simp [hin]
  · rw [Array.getElem?_eq_none (by omega)]
    simp [hin]

/-- Behind a law: true, and all that was there is as it was. -/
theorem args_stay : ∀ {ts : List TypeId} {vs : List Value} {ds : List (DataW H)} {ps : List MemPlace} {W W' : World}, laidOutB P = true → ts.all (fun t => P.readableRec t && decide (t < P.types.size)) = true →
    DataW.TrodAll enc P W 0 (fun _ => true) true ts vs ds ps → Below W.heap.size W W' → DataW.TrodAll enc P W' 0 (fun b => decide (b < W.heap.size)) true ts vs ds ps
  | [], vs, ds, ps, W, W', _, _, h, _ => by
    obtain ⟨rfl, rfl, rfl⟩ := trodAll_nil h
    exact trodAll_mk0
  | t :: ts, vs, ds, ps, W, W', hl, hr, h, hb => by
    simp only [List.all_cons, Bool.and_eq_true, decide_eq_true_eq] at hr
    obtain ⟨v, vs', d, ds', p, q, rfl, rfl, rfl, h1, h2⟩ := trodAll_cons h
    have hlt : ∀ x ∈ p, x.block < W.heap.size := by obtain ⟨m, hm⟩ := h1; exact DataW.trod_lt m _ _ _ hm
    exact trodAll_cons_mk (Below.trod hl hr.1.1 hr.1.2 h1 hb hlt) (args_stay hl (by simpa using hr.2) h2 hb)
theorem law_post {f : Func} {s : ChangeSpec} {W W' : World} {args : Array Value} {ds : List (DataW H)} {before : List MemPlace} {tb : TypeId} (hb' : P.underlying tb = some .bool) (hres : f.resultTypes = #[tb]) (hl : laidOutB P = true)
    (hr : f.params.toList.all (fun t => P.readableRec t && decide (t < P.types.size)) = true) (hvars : s.vars = [])
    (hfn : s.fn H (ds ++ []) = { results := [.lit (.bool true)], args := ds }) (hW : DataW.Whole enc P f.params.toList s.vars false W args.toList ds [] before) (hb : Below W.heap.size W W') :
    s.post enc P f false true false false W args (.bool true) W' := by
  have hW2 := hW
  obtain ⟨p, q, hA, hV, rfl, hfz, hnd⟩ := hW
  rw [hvars] at hV
  obtain ⟨_, rfl⟩ := trodVars_none hV
  refine ⟨_, _, _, [], p, [], hW2, ?_, ?_, ?_, hb.frame _, fun h => by cases h⟩
  · rw [hfn, hres]
    exact trodAll_mk1 (shut_bool hb' _)
  · rw [hfn]
    exact args_stay hl hr hA hb
  · rw [hfn, hvars]
    rfl
end
end Go.Proofs.Ytjjhnjkmoogloaa

/- A packet that came in, opened. -/
namespace Go.Proofs.Ytjjhnjkmoogloaa
open Go.ChangeShapes Go.WideShapes Go.ChangeAt Go.RowKit Go.Deep
set_option linter.unusedVariables false
set_option maxRecDepth 100000

section
variable {H : Type} {enc : TypeId × Value → H} {P : Program} {w : World} {base : Nat} {held : Bool} {spare : Nat → Bool}
/-- A struct of one-cell fields that came in, opened. -/
theorem open_struct {r : Reach} {b0 : Nat} {t : TypeId} {fs : Array Field} {v : Value} {d : DataW H} {ps : List MemPlace} (hs : P.underlying t = some (.struct fs)) (hone : oneCellFields P fs = true)
    (hv : Value.okWide P w r b0 t v) (h : DataW.Trod enc P w base spare held t v d ps) :
    ∃ (cs : List Value) (xs : List (DataW H × List MemPlace)) (n : Nat), v = .agg cs.toArray ∧ cs.length = P.cellsOf t ∧ d = .agg (xs.map (·.1)) ∧ xs.length = fs.size ∧
      ∀ i f, fs[i]? = some f → DataW.trod enc P w base spare held n f.type ((cs.drop i).take 1) = xs[i]? := by
  obtain ⟨cs, rfl, hsz⟩ := okWide_struct hs hv
  obtain ⟨fuel, hf⟩ := h
  obtain ⟨xs, n, _, hx, hl, hxl, hi⟩ := DataW.trod_struct hs hf
  simp only [Prod.mk.injEq] at hx
  refine ⟨cs.toList, xs, n, by simp, by simpa using hsz, hx.1, hxl, fun i f hfi => ?_⟩
  have h1 := hi i f hfi
  obtain ⟨o, k⟩ := hone_of hone i f hfi
  simpa [Value.cells, o, k] using h1
theorem list9 {α : Type} {l : List α} (h : l.length = 9) : ∃ a b c d e f g i j, l = [a, b, c, d, e, f, g, i, j] := by
  match l, h with
  | [a, b, c, d, e, f, g, i, j], _ => exact ⟨a, b, c, d, e, f, g, i, j, rfl⟩
theorem slice_small {t e : TypeId} {n : Nat} {y : DataW H} (ht : P.underlying t = some (.slice e)) (hb : P.bytesOf e = 1) (hw : ∀ m ∈ y.weights P t, m ≤ reachBytes) (hd : (y = .nil ∧ n = 0) ∨ ∃ es sp, y = .slice es sp ∧ es.length = n) : n ≤ 200000000000000 := by
  rcases hd with ⟨_, h⟩ | ⟨es, sp, rfl, hn⟩
  · omega
  · have h1 := hw ((es.length + sp.length) * P.bytesOf e) (by simp [DataW.weights, ht])
    rw [hb] at h1
    simp only [reachBytes] at h1
    omega
theorem trod_byte {t : TypeId} {n : Nat} {v : Value} {y : DataW H × List MemPlace} (ht : P.underlying t = some (.int .u8)) (h : DataW.trod enc P w base spare held n t [v] = some y) : ∃ a, v = .int .u8 a ∧ 0 ≤ a ∧ a ≤ 255 := by
  obtain ⟨a, e, -, hw⟩ := DataW.trod_int ht h
  injection e with e
  exact ⟨a, e, by simpa [Lit.wf, IntKind.min, IntKind.max, IntKind.signed, IntKind.bits] using hw⟩
theorem trod_u16 {t : TypeId} {n : Nat} {v : Value} {y : DataW H × List MemPlace} (ht : P.underlying t = some (.int .u16)) (h : DataW.trod enc P w base spare held n t [v] = some y) : ∃ a, v = .int .u16 a ∧ 0 ≤ a ∧ a ≤ 65535 := by
  obtain ⟨a, e, -, hw⟩ := DataW.trod_int ht h
  injection e with e
  exact ⟨a, e, by simpa [Lit.wf, IntKind.min, IntKind.max, IntKind.signed, IntKind.bits] using hw⟩
theorem trod_u32 {t : TypeId} {n : Nat} {v : Value} {y : DataW H × List MemPlace} (ht : P.underlying t = some (.int .u32)) (h : DataW.trod enc P w base spare held n t [v] = some y) : ∃ a, v = .int .u32 a ∧ 0 ≤ a ∧ a ≤ 4294967295 := by
  obtain ⟨a, e, -, hw⟩ := DataW.trod_int ht h
  injection e with e
  exact ⟨a, e, by simpa [Lit.wf, IntKind.min, IntKind.max, IntKind.signed, IntKind.bits] using hw⟩
theorem trod_yes {t : TypeId} {n : Nat} {v : Value} {y : DataW H × List MemPlace} (ht : P.underlying t = some .bool) (h : DataW.trod enc P w base spare held n t [v] = some y) : ∃ b, v = .bool b := by
  obtain ⟨b, e, -⟩ := DataW.trod_bool ht h
  injection e with e
  exact ⟨b, e⟩
/-- A field of bytes. -/
theorem trod_bytes {t e : TypeId} {n : Nat} {v : Value} {y : DataW H × List MemPlace} (ht : P.underlying t = some (.slice e)) (he : P.underlying e = some (.int .u8)) (hc : P.cellsOf e = 1) (hb : P.bytesOf e = 1)
    (hw : ∀ m ∈ y.1.weights P t, m ≤ reachBytes) (h : DataW.trod enc P w base spare held n t [v] = some y) : ∃ A n c l, v = .slice A n c ∧ Bs w A n c l := by
  obtain ⟨A, n, c, l, hv, hbs, hd⟩ := open_bs ht he hc h
  exact ⟨A, n, c, l, hv, hbs (slice_small ht hb hw hd)⟩
theorem weights_field {t : TypeId} {fs : Array Field} {parts : List (DataW H)} {j : Nat} {f : Field} {y : DataW H} (hs : P.underlying t = some (.struct fs)) (hsz : ∀ m ∈ (DataW.agg parts).weights P t, m ≤ reachBytes) (hf : fs[j]? = some f) (hy : parts[j]? = some y) :
    ∀ m ∈ y.weights P f.type, m ≤ reachBytes := by
  intro m hm
  refine hsz m ?_
  rw [DataW.weights, hs]
  exact DataW.weights_mem_each (j := j) (by simp [hf]) hy m hm
end
section
variable {H : Type} {enc : TypeId × Value → H} {w : World} {base : Nat} {held : Bool} {spare : Nat → Bool}
theorem open_pkt {r : Reach} {b0 : Nat} {v : Value} {d : DataW H} {ps : List MemPlace} (hval : Value.okWide Try.prog w r b0 26 v) (hd : DataW.Trod enc Try.prog w base spare held 26 v d ps)
    (hsz : ∀ m ∈ d.weights Try.prog 26, m ≤ reachBytes) :
    ∃ (p : Pkt) (A1 : Option Addr) (n1 c1 : Nat) (A2 : Option Addr) (n2 c2 : Nat), v = (.agg #[.int .u8 (p).tos, .int .u16 (p).id, .bool (p).keep, .int .u8 (p).ttl, .int .u8 (p).proto, .int .u32 (p).src, .int .u32 (p).dst, .slice A1 n1 c1, .slice A2 n2 c2]) ∧ p.Ok ∧ Bs w A1 n1 c1 p.opt ∧ Bs w A2 n2 c2 p.dat := by
  have hu := Try.underlying26
  obtain ⟨cs, xs, n, rfl, hcl, rfl, hxl, hi⟩ := open_struct hu (by kernel_rfl) hval hd
  rw [show (Try.prog.cellsOf 26) = 9 from by kernel_rfl] at hcl
  obtain ⟨v0, v1, v2, v3, v4, v5, v6, v7, v8, rfl⟩ := list9 hcl
  obtain ⟨y0, y1, y2, y3, y4, y5, y6, y7, y8, rfl⟩ := list9 (by simpa using hxl)
  obtain ⟨a0, rfl, b0l, b0h⟩ := trod_byte (t := 5) Try.underlying5 (by simpa using hi 0 _ rfl)
  obtain ⟨a1, rfl, b1l, b1h⟩ := trod_u16 (t := 22) Try.underlying22 (by simpa using hi 1 _ rfl)
  obtain ⟨a2, rfl⟩ := trod_yes (t := 4) Try.underlying4 (by simpa using hi 2 _ rfl)
  obtain ⟨a3, rfl, b3l, b3h⟩ := trod_byte (t := 5) Try.underlying5 (by simpa using hi 3 _ rfl)
  obtain ⟨a4, rfl, b4l, b4h⟩ := trod_byte (t := 5) Try.underlying5 (by simpa using hi 4 _ rfl)
  obtain ⟨a5, rfl, b5l, b5h⟩ := trod_u32 (t := 23) Try.underlying23 (by simpa using hi 5 _ rfl)
  obtain ⟨a6, rfl, b6l, b6h⟩ := trod_u32 (t := 23) Try.underlying23 (by simpa using hi 6 _ rfl)
  obtain ⟨A1, n1, c1, l1, rfl, k1⟩ := trod_bytes (t := 24) Try.underlying24 Try.underlying5 (by kernel_rfl) (by kernel_rfl) (weights_field (j := 7) (y := y7.1) hu hsz rfl (by simp)) (by simpa using hi 7 _ rfl)
  obtain ⟨A2, n2, c2, l2, rfl, k2⟩ := trod_bytes (t := 24) Try.underlying24 Try.underlying5 (by kernel_rfl) (by kernel_rfl) (weights_field (j := 8) (y := y8.1) hu hsz rfl (by simp)) (by simpa using hi 8 _ rfl)
  exact ⟨⟨a0, a1, a2, a3, a4, a5, a6, l1, l2⟩, A1, n1, c1, A2, n2, c2, rfl, ⟨⟨b0l, b0h⟩, ⟨b1l, b1h⟩, ⟨b3l, b3h⟩, ⟨b4l, b4h⟩, ⟨b5l, b5h⟩, ⟨b6l, b6h⟩⟩, k1, k2⟩
end
end Go.Proofs.Ytjjhnjkmoogloaa

/- Parts of what came in, opened: structs by their cells, arrays, bytes with their bound. -/
namespace Go.Proofs.Ytjjhnjkmoogloaa
open Go.ChangeShapes Go.WideShapes Go.ChangeAt Go.RowKit Go.Deep
set_option linter.unusedVariables false

section
variable {H : Type} {enc : TypeId × Value → H} {P : Program} {w : World} {base : Nat} {held : Bool} {spare : Nat → Bool}
theorem list4 {α : Type} {l : List α} (h : l.length = 4) : ∃ a b c d, l = [a, b, c, d] := by
  match l, h with
  | [a, b, c, d], _ => exact ⟨a, b, c, d, rfl⟩
theorem list6 {α : Type} {l : List α} (h : l.length = 6) : ∃ a b c d e f, l = [a, b, c, d, e, f] := by
  match l, h with
  | [a, b, c, d, e, f], _ => exact ⟨a, b, c, d, e, f, rfl⟩
theorem slice_smallT {t e : TypeId} {n : Nat} {y : DataW H} (ht : P.underlying t = some (.slice e)) (hb : P.bytesOf e = 1) (hw : ∀ m ∈ y.weights P t, m ≤ reachBytes) (hd : (y = .nil ∧ n = 0) ∨ ∃ es sp, y = .slice es sp ∧ es.length = n) : n ≤ 140737488351232 := by
  rcases hd with ⟨_, h⟩ | ⟨es, sp, rfl, hn⟩
  · omega
  · have h1 := hw ((es.length + sp.length) * P.bytesOf e) (by simp [DataW.weights, ht])
    rw [hb] at h1
    simp only [reachBytes] at h1
    omega
theorem trod_bytesT {t e : TypeId} {n : Nat} {v : Value} {y : DataW H × List MemPlace} (ht : P.underlying t = some (.slice e)) (he : P.underlying e = some (.int .u8)) (hc : P.cellsOf e = 1) (hb : P.bytesOf e = 1)
    (hw : ∀ m ∈ y.1.weights P t, m ≤ reachBytes) (h : DataW.trod enc P w base spare held n t [v] = some y) : ∃ A n c l, v = .slice A n c ∧ Bs w A n c l ∧ n ≤ 140737488351232 := by
  obtain ⟨A, n, c, l, hv, hbs, hd⟩ := open_bs ht he hc h
  have hs := slice_smallT ht hb hw hd
  exact ⟨A, n, c, l, hv, hbs (by omega), hs⟩
/-- A struct of one-cell fields, by its cells. -/
theorem open_structT {t : TypeId} {fs : Array Field} {cs : List Value} {n0 : Nat} {x : DataW H × List MemPlace} (hs : P.underlying t = some (.struct fs)) (hone : oneCellFields P fs = true)
    (h : DataW.trod enc P w base spare held n0 t cs = some x) :
    ∃ (xs : List (DataW H × List MemPlace)) (n : Nat), cs.length = P.cellsOf t ∧ x.1 = .agg (xs.map (·.1)) ∧ xs.length = fs.size ∧
      ∀ i f, fs[i]? = some f → DataW.trod enc P w base spare held n f.type ((cs.drop i).take 1) = xs[i]? := by
  obtain ⟨xs, n, _, hx, hl, hxl, hi⟩ := DataW.trod_struct hs h
  refine ⟨xs, n, hl, by rw [hx], hxl, fun i f hfi => ?_⟩
  have h1 := hi i f hfi
  obtain ⟨o, k⟩ := hone_of hone i f hfi
  simpa [o, k] using h1
theorem mem_weightsAll {e : TypeId} : ∀ {ds : List (DataW H)} {j : Nat} {d : DataW H}, ds[j]? = some d → ∀ n ∈ d.weights P e, n ∈ DataW.weightsAll P e ds
  | [], j, d, h, _, _ => by simp at h
  | x :: r, 0, d, h, n, hn => by
    simp only [List.getElem?_cons_zero, Option.some.injEq] at h
    subst h
    simp only [DataW.weightsAll, List.mem_append]
    exact .inl hn
  | x :: r, j + 1, d, h, n, hn => by
    simp only [List.getElem?_cons_succ] at h
    simp only [DataW.weightsAll, List.mem_append]
    exact .inr (mem_weightsAll h n hn)
theorem weights_arr {t e : TypeId} {n : Nat} {parts : List (DataW H)} {j : Nat} {y : DataW H} (ht : P.underlying t = some (.array n e)) (hsz : ∀ m ∈ (DataW.agg parts).weights P t, m ≤ reachBytes) (hy : parts[j]? = some y) :
    ∀ m ∈ y.weights P e, m ≤ reachBytes := fun m hm => hsz m (by rw [DataW.weights, ht]; exact mem_weightsAll hy m hm)
end
end Go.Proofs.Ytjjhnjkmoogloaa

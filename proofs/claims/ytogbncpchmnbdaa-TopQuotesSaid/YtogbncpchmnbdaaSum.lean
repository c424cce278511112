import Derived.Test.YtogbncpchmnbdaaRange
import Derived.Test.YtogbncpchmnbdaaWire
import Derived.Shelf.RegionOpen
import Derived.OwnWalkIn
import Derived.TacticsInMore
import Derived.LoopNIn
import Derived.LoopIn
namespace Go.Proofs.Ytogbncpchmnbdaa
open Go.RowKit Go.Shelf
attribute [local go_sem] Oper.semAt_some
set_option linter.unusedVariables false
set_option maxRecDepth 100000

/-- How many bytes are left in the iterator's variable. -/
def leftIn (B : Nat) (W : World) : Nat := match W.cell? ⟨B, 0, none⟩ with
  | some (.slice _ n _) => n
  | _ => 0
theorem leftIn_eq {B : Nat} {W : World} {A : Option Addr} {n c : Nat} (h : W.cell? ⟨B, 0, none⟩ = some (.slice A n c)) : leftIn B W = n := by simp [leftIn, h]

/-- Between two rounds: k words have come, the iterator's variable holds v. -/
def SumI (w : World) (B : Nat) (C : Nat → World → Prop) (s : Nat × Value) (W : World) : Prop :=
  C s.1 W ∧ W.cell? ⟨B, 0, none⟩ = some s.2 ∧ W.frozen? ⟨B, 0, none⟩ = false ∧ Below w.heap.size w W
def SumOk (w : World) (l : List UInt8) (n : Nat) (s : Nat × Value) (x : Int) : Prop :=
  x = wd l s.1 ∧ 2 * s.1 < n

theorem bt_drop (l : List UInt8) (k i : Nat) : bt (l.drop k) i = bt l (k + i) := by
  unfold bt
  simp [List.getD_eq_getElem?_getD, List.getElem?_drop]

set_option maxHeartbeats 1000000 in
theorem words1_in (D B : Nat) (w : World) (l : List UInt8) (n : Nat) (hl : l.length = n) (hB : w.heap.size ≤ B) (hBD : B < D) (hn : n ≤ 200000000000000) (C : Nat → World → Prop) (R : World → Prop) (Rx : Code → World → Prop)
    (hC : ∀ k W u, C k W → C k (W.setCell ⟨B, 0, none⟩ u)) (hR : ∀ W W', R W → KeepsFrom D W W' → R W')
    (hY : ∀ s x W, SumOk w l n s x → SumI w B C s W → R W → YieldAt Fence.wide 1 Try.prog (D + 1) #[.int .u32 x] W (roundSaid (s.1 + 1, s.2) (SumI w B C) (fun _ _ _ => False) R Rx)) (W1 : World) (A0 : Option Addr) (c0 : Nat)
    (hb0 : Bs w A0 n c0 l) (h0 : SumI w B C (0, .slice A0 n c0) W1) (hR0 : R W1) :
    CallsIn Fence.wide 2 Try.prog 71 (#[.func (.yield (D + 1)) #[] #[]] ++ #[.pointer (some ⟨B, 0, none⟩)]) W1 (iterEnd (fun s => n ≤ 2 * s.1 ∧ 2 * s.1 ≤ n + 1) (SumI w B C) (fun _ _ _ => False) R Rx) := by
  obtain ⟨i8, hi8, _, hs8, _⟩ := info_parts info_u8
  refine callsIn_of_wp Try.func71 rfl trivial ?_ rfl
  simp only [Try.ntmps71, List.size_toArray, List.length_cons, List.length_nil, Nat.reduceAdd, Nat.reduceSub, Array.replicate_succ, Array.replicate_zero, List.push_toArray, List.append_toArray, List.nil_append, List.cons_append]
  gi_wp2
  gi_loopw [3] (fun _ wr => ∃ k A m c, m + 2 * k = max n (2 * k) ∧ 2 * k ≤ n + 1 ∧ Bs w A m c (l.drop (2 * k)) ∧ SumI w B C (k, .slice A m c) wr ∧ R wr) (fun _ wr => leftIn B wr)
  case atStart => exact ⟨0, A0, n, c0, by omega, by omega, by simpa using hb0, h0, hR0⟩
  case round =>
    obtain ⟨k, A, m, c, hm, hk, hb, hi, hr⟩ := hrel
    have hi' := hi
    obtain ⟨hc, hcell, hfz, hbel⟩ := hi
    have hlf := leftIn_eq hcell
    dsimp only at hcell hc
    by_cases h2 : 2 * k < n
    · have hm0 : 0 < m := by omega
      have hbr := hb.below hbel
      obtain ⟨b, off, rfl, hcs⟩ := hbr.rd hm0
      have g0 := hcs 0 hm0
      rw [bt_drop, Nat.add_zero, Nat.add_zero] at g0
      have b0 := bt_lo l (2 * k)
      have b0' := bt_hi l (2 * k)
      have b1 := bt_lo l (2 * k + 1)
      have b1' := bt_hi l (2 * k + 1)
      have hcap := hb.cap
      by_cases h3 : 1 < m
      · have g1 := hcs 1 h3
        rw [bt_drop] at g1
        have hor := or_u32b b0 b0' b1 b1'
        obtain ⟨fn, tmps, assign, body, hy, hR2⟩ := hY (k, _) (bt l (2 * k) * 256 + bt l (2 * k + 1)) wr ⟨rfl, h2⟩ hi' hr
        have hcut : ∀ W, (Instr.slice 24 (.slice (some ⟨b, off, none⟩) m c) (some (.int .i64 2)) none none).run Try.prog W = _ := fun W => cut_l Try.underlying24 hi8 hs8 (some ⟨b, off, none⟩) m c .i64 2 (by omega) (by omega) W
        obtain ⟨A', n', c', eA, en, ec, hb2⟩ := hb.cutE (lo := 2) (hi := m) (by omega) (Nat.le_refl _)
        simp only [show (2 : Int).toNat = 2 from rfl, eA, en, ec] at hcut
        have hb3 : Bs w A' n' c' (l.drop (2 * (k + 1))) := by
          rw [List.take_of_length_le (by rw [hb.len]; exact Nat.le_refl _), List.drop_drop] at hb2
          exact hb2
        have en1 : n' + 2 = m := by omega
        have en2 : m ≤ n' + 2 := by omega
        have en3 : n' + 2 ≤ m := by omega
        clear eA en ec hb2 hcs en1 hm
        have HM : Hid (m + 2 * k = n) := by unfold Hid; have := hb.len; simp at this; omega
        clear hlf
        gi_wp2
        refine hR2.mono ?_
        rintro e W2 (⟨rfl, ⟨hc2, hcell2, hfz2, hbel2⟩, hr2⟩ | ⟨_, _, hx, _⟩)
        · dsimp only at hcell2 hc2
          gi_wp2
          go_roundw
          case rel => exact ⟨k + 1, A', n', c', by have := HM.out; omega, by omega, hb3, ⟨hC _ _ _ hc2, by rw [World.cell?_setCell_same' _ _ _ (by rw [hcell2]; rfl)], by rw [World.frozen?_setCell]; exact hfz2, hbel2.setCell (p := ⟨B, 0, none⟩) hB _⟩, hR _ _ hr2 (keeps_setCell _ _ _)⟩
          case measure => rw [leftIn_eq (World.cell?_setCell_same' W2 _ _ (by rw [hcell2]; rfl)), leftIn_eq hcell]; omega
        · exact hx.elim
      · have hm1 : m ≤ 1 := by omega
        have hwd : wd l k = bt l (2 * k) * 256 := wd_odd (by have := hb.len; simp at this; omega)
        obtain ⟨fn, tmps, assign, body, hy, hR2⟩ := hY (k, _) (bt l (2 * k) * 256) wr ⟨hwd.symm, h2⟩ hi' hr
        obtain rfl : m = 1 := by omega
        have hcut : ∀ W, (Instr.slice 24 (.slice (some ⟨b, off, none⟩) 1 c) (some (.int .i64 1)) none none).run Try.prog W = _ := fun W => cut_l Try.underlying24 hi8 hs8 (some ⟨b, off, none⟩) 1 c .i64 1 (by omega) (by omega) W
        obtain ⟨A', n', c', eA, en, ec, hb2⟩ := hb.cutE (lo := 1) (hi := 1) (by omega) (Nat.le_refl _)
        simp only [show (1 : Int).toNat = 1 from rfl, eA, en, ec] at hcut
        have hb3 : Bs w A' n' c' (l.drop (2 * (k + 1))) := by
          have e : (List.take 1 (l.drop (2 * k))).drop 1 = l.drop (2 * (k + 1)) := by
            have h4 := hb.len
            simp only [List.length_drop] at h4
            rw [List.drop_eq_nil_of_le (by simp; omega), List.drop_eq_nil_of_le (by omega)]
          rw [e] at hb2
          exact hb2
        have en1 : n' ≤ 0 := by omega
        have HM : Hid (1 + 2 * k = n) := by unfold Hid; have := hb.len; simp at this; omega
        clear eA en ec hb2 hcs hm hlf hwd
        gi_wp2
        refine hR2.mono ?_
        rintro e W2 (⟨rfl, ⟨hc2, hcell2, hfz2, hbel2⟩, hr2⟩ | ⟨_, _, hx, _⟩)
        · dsimp only at hcell2 hc2
          gi_wp2
          go_roundw
          case rel => exact ⟨k + 1, A', n', c', by have := HM.out; omega, by have := HM.out; omega, hb3, ⟨hC _ _ _ hc2, by rw [World.cell?_setCell_same' _ _ _ (by rw [hcell2]; rfl)], by rw [World.frozen?_setCell]; exact hfz2, hbel2.setCell (p := ⟨B, 0, none⟩) hB _⟩, hR _ _ hr2 (keeps_setCell _ _ _)⟩
          case measure => rw [leftIn_eq (World.cell?_setCell_same' W2 _ _ (by rw [hcell2]; rfl)), leftIn_eq hcell]; omega
        · exact hx.elim
    · have hm0 : m ≤ 0 := by omega
      have hm1 : ¬ (0 : Int) < m := by omega
      clear hlf hm
      gi_wp2
      go_end0
      exact ⟨⟨_, rfl⟩, .inl ⟨(k, _), ⟨by omega, hk⟩, hi', hr⟩⟩

set_option maxHeartbeats 1000000 in
theorem words_any (A : Option Addr) (n c : Nat) (w : World) :
    Calls Try.prog 62 #[.slice A n c] w fun e w' => e = .returned (.func (.func 71) #[] #[.pointer (some ⟨w.heap.size, 0, none⟩)]) ∧ w' = w.alloc (.cells #[.slice A n c] 24) := by
  have hmf : ∀ (fn : Fn) (first cap : Array Value) (w : World), (Instr.makeFunc fn first cap).run Try.prog w = .ok (.func fn first cap) w := fun _ _ _ _ => rfl
  go_enter Try.func62, Try.ntmps62
  go_wp2
  go_ret
  exact ⟨rfl, rfl⟩

set_option maxHeartbeats 1000000 in
theorem sum_any (A : Option Addr) (n c : Nat) (l : List UInt8) (w : World) (hb : Bs w A n c l) :
    Calls Try.prog 40 #[.slice A n c] w fun e w' => e = .returned (.int .u16 (csum l)) ∧ Below w.heap.size w w' := by
  refine (callsIn_wide (n := 3)).1 ?_
  refine callsIn_of_wp_marks Try.func40 rfl trivial ?_ rfl
  simp only [Try.ntmps40, List.size_toArray, List.length_cons, List.length_nil, Nat.reduceAdd, Nat.reduceSub, Array.replicate_succ, Array.replicate_zero, List.push_toArray, List.append_toArray, List.nil_append, List.cons_append]
  gi_wp2_with (refine ⟨trivial, ?_⟩; gi_at_call 62; refine (callsIn_wide.2 (words_any A n c _)).mono ?_; rintro e w' ⟨rfl, rfl⟩)
  obtain ⟨W0, hW0⟩ : ∃ W0, ((w.alloc (Obj.cells #[Value.int IntKind.u64 0] 75)).alloc (Obj.cells #[Value.slice A n c] 24)) = W0 := ⟨_, rfl⟩
  have hsz : W0.heap.size = w.heap.size + 2 := by rw [← hW0]; simp
  have hbel : Below w.heap.size w W0 := by rw [← hW0]; exact ((Below.refl _ w).alloc (Nat.le_refl _) _).alloc (by simp) _
  have hn1 : W0.cell? ⟨w.heap.size, 0, none⟩ = some (.int .u64 0) := by rw [← hW0]; simp [go_sem]
  have hn2 : W0.frozen? ⟨w.heap.size, 0, none⟩ = false := by rw [← hW0]; simp [go_sem]
  have hn3 : W0.cell? ⟨w.heap.size + 1, 0, none⟩ = some (.slice A n c) := by rw [← hW0]; simp [go_sem]
  have hn4 : W0.frozen? ⟨w.heap.size + 1, 0, none⟩ = false := by rw [← hW0]; simp [go_sem]
  rw [hW0]
  clear hW0
  have hmax := hb.max
  have hlen := Lib.hid hb.len
  have hC : ∀ (k : Nat) (W : World) (u : Value), (W.cell? ⟨w.heap.size, 0, none⟩ = some (.int .u64 (wsK l k)) ∧ W.frozen? ⟨w.heap.size, 0, none⟩ = false) → ((W.setCell ⟨w.heap.size + 1, 0, none⟩ u).cell? ⟨w.heap.size, 0, none⟩ = some (.int .u64 (wsK l k)) ∧ (W.setCell ⟨w.heap.size + 1, 0, none⟩ u).frozen? ⟨w.heap.size, 0, none⟩ = false) := by
    rintro k W u ⟨h1, h2⟩
    exact ⟨by rw [World.cell?_setCell_other _ _ _ _ (by simp)]; exact h1, by rw [World.frozen?_setCell]; exact h2⟩
  refine range_law rfl (by omega) (gf := 71) (lb := #[.pointer (some ⟨w.heap.size + 1, 0, none⟩)]) rfl trivial (enters_of Try.func71 (by kernel_rfl) rfl)
    (fun x : Int => #[.int .u32 x]) (fun _ => rfl) (fun s _ => (s.1 + 1, s.2)) (0, .slice A n c) (fun s => n ≤ 2 * s.1 ∧ 2 * s.1 ≤ n + 1)
    (SumI w (w.heap.size + 1) fun k W => W.cell? ⟨w.heap.size, 0, none⟩ = some (.int .u64 (wsK l k)) ∧ W.frozen? ⟨w.heap.size, 0, none⟩ = false) (fun _ _ _ => False)
    ?hI (fun _ _ _ _ h => h) ?h0
    (fun x => { tmps := #[.slice A n c, undef, .int .u16 0, .pointer (some ⟨w.heap.size, 0, none⟩), .int .u32 x, .slice A n c, .func (.func 71) #[] #[.pointer (some ⟨w.heap.size + 1, 0, none⟩)], .int .u32 x, undef, undef, undef, undef, undef, undef, undef], defers := [] })
    ?assign (SumOk w l n) ?body ?iter ?done (fun _ _ _ h => h.elim)
  case hI =>
    rintro s W o ⟨⟨h1, h2⟩, h3, h4, h5⟩
    rw [hsz]
    exact ⟨⟨by rw [cell_putObj (by show w.heap.size ≠ _; omega)]; exact h1, by rw [frozen_putObj (by show w.heap.size ≠ _; omega)]; exact h2⟩, by rw [cell_putObj (by show w.heap.size + 1 ≠ _; omega)]; exact h3, by rw [frozen_putObj (by show w.heap.size + 1 ≠ _; omega)]; exact h4, below_putObj h5 (by omega) _⟩
  case h0 =>
    intro o o'
    have hb' : Below W0.heap.size W0 ((W0.alloc o).alloc o') := ((Below.refl _ W0).alloc (Nat.le_refl _) _).alloc (by simp) _
    exact ⟨⟨(hb'.cell (p := ⟨w.heap.size, 0, none⟩) (by show w.heap.size < _; omega)).trans hn1, (hb'.frozen (p := ⟨w.heap.size, 0, none⟩) (by show w.heap.size < _; omega)).trans hn2⟩,
      (hb'.cell (p := ⟨w.heap.size + 1, 0, none⟩) (by show w.heap.size + 1 < _; omega)).trans hn3, (hb'.frozen (p := ⟨w.heap.size + 1, 0, none⟩) (by show w.heap.size + 1 < _; omega)).trans hn4, hbel.trans (hb'.mono (by omega))⟩
  case assign =>
    intro x W K hK
    gi_wp2
    exact hK
  case body =>
    rintro s x W ⟨rfl, hk⟩ ⟨⟨h1, h2⟩, h3, h4, h5⟩ hz
    have y0 := wd_lo l s.1
    have y1 := wd_hi l s.1
    have x0 := wsK_lo l s.1
    have x1 := wsK_hi l s.1
    gi_wp2
    exact ⟨keeps_setCell _ _ _, ⟨World.cell?_setCell_same' _ _ _ (by rw [h1]; rfl), by rw [World.frozen?_setCell]; exact h2⟩, by rw [World.cell?_setCell_other _ _ _ _ (by simp)]; exact h3, by rw [World.frozen?_setCell]; exact h4, h5.setCell (p := ⟨w.heap.size, 0, none⟩) (Nat.le_refl _) _⟩
  case iter =>
    intro R Rx W1 hRk hRs hY h0 hR0 hz
    exact words1_in W0.heap.size (w.heap.size + 1) w l n hlen.out (by omega) (by omega) hmax _ R Rx hC hRk (fun s x W => hY s x W) W1 A c hb h0 hR0
  case done =>
    rintro s W ⟨hs1, hs2⟩ ⟨⟨h1, h2⟩, h3, h4, h5⟩ hK
    obtain ⟨k, v⟩ := s
    dsimp only at hs1 hs2 h1 h3
    have HW : Hid (65535 - fd (wsK l k) = csum l) := by
      unfold Hid csum ws
      rw [hlen.out, show (n + 1) / 2 = k from by omega]
    have x0 := wsK_lo l k
    have x1 := wsK_hi l k
    have hsg : IntKind.u16.signed = false := rfl
    have x3 := not_u16 (fd_lo (wsK l k)) (fd_hi _)
    gi_wp2_with (refine ⟨trivial, ?_⟩; gi_at_call 63; refine (callsIn_wide.2 (fold_any _ x0 (by omega) _)).mono ?_; rintro e w' ⟨rfl, rfl⟩)
    rw [hsz] at hK
    refine ⟨by simp, .inl ⟨_, _, rfl, run_takeDeferred hK, ?_⟩⟩
    refine ⟨_, results_tmp rfl _ _ _, ?_, below_putObj h5 (by omega) _⟩
    exact congrArg (fun z => Ending.returned (.int .u16 z)) HW.out

theorem good_any (A : Option Addr) (n c : Nat) (l : List UInt8) (w : World) (hb : Bs w A n c l) :
    Calls Try.prog 49 #[.slice A n c] w fun e w' => e = .returned (.bool (csum l == 0)) ∧ Below w.heap.size w w' := by
  go_enter Try.func49, Try.ntmps49
  go_wp2_with (go_at_call 40; refine (sum_any _ _ _ l _ hb).mono ?_; rintro e w1 ⟨rfl, hB⟩)
  go_ret
  exact ⟨rfl, hB⟩
end Go.Proofs.Ytogbncpchmnbdaa

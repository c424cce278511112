/- The packet with a frame. -/
import Derived.Test.YtogbncpchmnbdaaGre1
import Derived.Test.YtogbncpchmnbdaaWith2
import Derived.Test.YtogbncpchmnbdaaRegX
import Derived.Test.YtogbncpchmnbdaaIpR4L
import Derived.Test.YtogbncpchmnbdaaMsg3
import Derived.Lib.AppendZerosOnto
namespace Go.Proofs.Ytogbncpchmnbdaa
open Go.RowKit
set_option linter.unusedVariables false
set_option linter.unusedSimpArgs false
set_option maxHeartbeats 4000000
set_option maxRecDepth 100000

/-- A frame's header. -/
def gH (f : Frm) : List UInt8 := grB f.hs f.ha ++ two ((f.dat.length : Int) % 65536) ++ two f.call ++ (if f.hs then four f.seq else []) ++ (if f.ha then four f.ack else [])
def gL (f : Frm) : List UInt8 := gH f ++ f.dat
def gN (f : Frm) : Nat := 8 + (if f.hs then 4 else 0) + (if f.ha then 4 else 0) + f.dat.length
theorem gL_len (f : Frm) : (gL f).length = gN f := by
  unfold gL gH gN grB two four
  cases f.hs <;> cases f.ha <;> simp <;> omega
/-- Must it be refused for its own numbers? -/
def gBad (f : Frm) : Bool := (!f.hs && f.seq != 0) || (!f.ha && f.ack != 0)
def bgE (p : Pkt) (f : Frm) : Int := if gBad f then 4 else wiE p (gN f)
def bgP (p : Pkt) (f : Frm) : Pkt := if gBad f then zP else withP p 47 (gL f)
/-- The array of the first four bytes, with four of 0 behind it. -/
theorem app_first (w : World) (g : Nat) (a b : Int) (a0 : 0 ≤ a) (a1 : a ≤ 255) (b0 : 0 ≤ b) (b1 : b ≤ 255) (G : Blk w g #[.int .u8 a, .int .u8 b, .int .u8 136, .int .u8 11] 61) :
    ∃ A c w', (Builtin.append_ #[24, 3] 24 #[.slice (some ⟨g, 0, none⟩) 4 4, .int .i64 4]).run Try.prog w = .ok (.slice A 8 c) w' ∧ Own w' w.heap.size 5 A 8 c ([ub a, ub b, ub 136, ub 11] ++ [0, 0, 0, 0]) ∧ Below w.heap.size w w' := by
  obtain ⟨i8, hi8, hz8, hs8, hb8⟩ := info_parts info_u8
  have gc := G.cell.1
  have hold : (Builtin.firstCells i8.size 4 (.slice (some ⟨g, 0, none⟩) 4 4)).run Try.prog w.drew = .ok [Value.int .u8 a, .int .u8 b, .int .u8 136, .int .u8 11].toArray w.drew := by
    refine run_firstCells_some (P := Try.prog) w.drew i8.size 4 ⟨g, 0, none⟩ 4 4 [.int .u8 a, .int .u8 b, .int .u8 136, .int .u8 11] (by rw [hs8]; rfl) fun j u hj => ?_
    have hc : w.drew.cell? ((⟨g, 0, none⟩ : Addr).add j) = w.cell? ⟨g, j, none⟩ := by
      have : (⟨g, 0, none⟩ : Addr).add j = ⟨g, j, none⟩ := by unfold Addr.add; split <;> simp_all
      rw [this]; rfl
    rw [hc, gc]
    simpa using hj
  have hr := Lib.run_append_grow_zeros (P := Try.prog) w 24 3 24 5 i8 (.int .u8 0) .i64 .i64 Try.underlying24 Try.underlying3 hi8 hz8 (some ⟨g, 0, none⟩) 4 4 _ hold 4 (by omega) (by omega) (by omega) (by omega) (by omega) (growslice_fits_wide (by omega) (by rw [hb8]; omega))
  have hge : 8 ≤ grownCap w 8 4 5 := grownCap_ge w 8 4 5
  have hcu : ([Value.int .u8 a, .int .u8 b, .int .u8 136, .int .u8 11] ++ [.int .u8 0, .int .u8 0, .int .u8 0, .int .u8 0]) = cu ([ub a, ub b, ub 136, ub 11] ++ [0, 0, 0, 0]) := by
    simp [cu, ub_val]; omega
  refine ⟨_, _, _, hr, ⟨rfl, by omega, ⟨by rw [cu_length]; rfl, .inr ⟨w.heap.size, _, _, rfl, Nat.le_refl _, heap_alloc_new w.drew _, hge, grownCap_le_maxLen w (4 + 4) 4 5 (by simp only [maxLen]; omega), ?_, ?_⟩⟩⟩, (Below.drew (Below.refl _ w)).alloc (Nat.le_refl _) _⟩
  · simp [Array.size_append, size_zeroCells, Value.cells]; omega
  · rw [← hcu]
    have hz4 : Builtin.zeroCells (Value.int .u8 0).cells 4 = #[.int .u8 0, .int .u8 0, .int .u8 0, .int .u8 0] := by
      apply Array.ext'
      simp [Builtin.zeroCells, Value.cells, Nat.mod_one, Array.toList_range, List.range_succ]
    simp only [hz4, Array.toList_append, List.append_assoc]
    rfl
theorem b0F_bd (s : Bool) : 0 ≤ b0F s ∧ b0F s ≤ 255 := by cases s <;> decide
theorem b1F_bd (s : Bool) : 0 ≤ b1F s ∧ b1F s ≤ 255 := by cases s <;> decide
theorem bg_bad' (p : Pkt) (A1 : Option Addr) (n1 c1 : Nat) (A2 : Option Addr) (n2 c2 : Nat) (call : Int) (hs ha : Bool) (seq ack : Int) (dat : List UInt8) (B1 : Option Addr) (m1 d1 : Nat) (w : World) (k1 : Bs w A1 n1 c1 p.opt) (j1 : Bs w B1 m1 d1 dat)
    (h : (hs = false ∧ (seq != 0) = true) ∨ ((hs = true ∨ (seq != 0) = false) ∧ ha = false ∧ (ack != 0) = true)) :
    Calls Try.prog 16 #[(.agg #[.int .u8 (p).tos, .int .u16 (p).id, .bool (p).keep, .int .u8 (p).ttl, .int .u8 (p).proto, .int .u32 (p).src, .int .u32 (p).dst, .slice A1 n1 c1, .slice A2 n2 c2]), .agg #[.int .u16 call, .bool hs, .bool ha, .int .u32 seq, .int .u32 ack, .slice B1 m1 d1]] w (WiPost w zP 4) := by
  obtain ⟨k, hk⟩ : ∃ k : Nat, w.heap.size = k := ⟨_, rfl⟩
  obtain ⟨w1, hw1⟩ : ∃ w1, ((w.alloc (.cells #[.int .u8 (p).tos, .int .u16 (p).id, .bool (p).keep, .int .u8 (p).ttl, .int .u8 (p).proto, .int .u32 (p).src, .int .u32 (p).dst, .slice A1 n1 c1, .slice A2 n2 c2] 26)).alloc (.cells #[.int .u16 call, .bool hs, .bool ha, .int .u32 seq, .int .u32 ack, .slice B1 m1 d1] 30)).alloc (.cells #[.int .u8 0, .int .u16 0, .bool false, .int .u8 0, .int .u8 0, .int .u32 0, .int .u32 0, .slice none 0 0, .slice none 0 0] 26) = w1 := ⟨_, rfl⟩
  have P1 : Blk w1 k #[.int .u8 (p).tos, .int .u16 (p).id, .bool (p).keep, .int .u8 (p).ttl, .int .u8 (p).proto, .int .u32 (p).src, .int .u32 (p).dst, .slice A1 n1 c1, .slice A2 n2 c2] 26 := by rw [← hw1]; exact ((blk_new w _ _ k hk).alloc _).alloc _
  have F1 : Blk w1 (k + 1) #[.int .u16 call, .bool hs, .bool ha, .int .u32 seq, .int .u32 ack, .slice B1 m1 d1] 30 := by rw [← hw1]; exact (blk_new _ _ _ (k + 1) (by simp [hk])).alloc _
  have Z1 : Blk w1 (k + 1 + 1) #[.int .u8 0, .int .u16 0, .bool false, .int .u8 0, .int .u8 0, .int .u32 0, .int .u32 0, .slice none 0 0, .slice none 0 0] 26 := by rw [← hw1]; exact blk_new _ _ _ (k + 1 + 1) (by simp [hk])
  have R1 : Below w.heap.size w w1 := by rw [← hw1]; (repeat (first | with_reducible exact Below.refl _ _ | with_reducible refine below_drew ?_ | with_reducible refine below_drewN ?_ _ | with_reducible refine below_alloc ?_ (Nat.le_refl _) _ | with_reducible refine Below.setCell ?_ (by first | exact Nat.le_refl _ | (simp only []; omega)) _ | with_reducible assumption))
  have x1 := k1.below R1
  have y1 := j1.below R1
  have pc := P1.cell
  have mc := F1.cell
  have zc := Z1.cell
  have kl1 := P1.lt
  have ml1 := F1.lt
  obtain ⟨wf, hwf, Sf⟩ := store9 Z1 (.int .u8 0) (.int .u16 0) (.bool false) (.int .u8 0) (.int .u8 0) (.int .u32 0) (.int .u32 0) (.slice none 0 0) (.slice none 0 0)
  have pf := Sf.blk.cell
  have Tf := Sf.bel R1 (by omega)
  have h0 : hs = false ∨ hs = true := by cases hs <;> simp
  rcases h with ⟨h1, h2⟩ | ⟨h1 | h1, h2, h3⟩
  · subst h1
    go_enter Try.func16, Try.ntmps16
    go_wp2_with fail
    exact bodyPost_ret (by simp [results, Try.results16, go_sem, pf]) rfl (wiPost_no Tf)
  · subst h1 h2
    go_enter Try.func16, Try.ntmps16
    go_wp2_with fail
    exact bodyPost_ret (by simp [results, Try.results16, go_sem, pf]) rfl (wiPost_no Tf)
  · subst h2
    rcases h0 with h0 | h0
    all_goals subst h0
    all_goals go_enter Try.func16, Try.ntmps16
    all_goals go_wp2_with fail
    all_goals exact bodyPost_ret (by simp [results, Try.results16, go_sem, pf]) rfl (wiPost_no Tf)
theorem gBad_iff {f : Frm} (h : gBad f = true) : (f.hs = false ∧ (f.seq != 0) = true) ∨ ((f.hs = true ∨ (f.seq != 0) = false) ∧ f.ha = false ∧ (f.ack != 0) = true) := by
  unfold gBad at h
  revert h
  cases f.hs <;> cases f.ha <;> cases (f.seq != 0) <;> cases (f.ack != 0) <;> simp
theorem bg_bad (p : Pkt) (A1 : Option Addr) (n1 c1 : Nat) (A2 : Option Addr) (n2 c2 : Nat) (f : Frm) (B1 : Option Addr) (m1 d1 : Nat) (w : World) (k1 : Bs w A1 n1 c1 p.opt) (j1 : Bs w B1 m1 d1 f.dat) (h : gBad f = true) :
    Calls Try.prog 16 #[(.agg #[.int .u8 (p).tos, .int .u16 (p).id, .bool (p).keep, .int .u8 (p).ttl, .int .u8 (p).proto, .int .u32 (p).src, .int .u32 (p).dst, .slice A1 n1 c1, .slice A2 n2 c2]), (.agg #[.int .u16 (f).call, .bool (f).hs, .bool (f).ha, .int .u32 (f).seq, .int .u32 (f).ack, .slice B1 m1 d1])] w (WiPost w zP 4) :=
  bg_bad' p A1 n1 c1 A2 n2 c2 f.call f.hs f.ha f.seq f.ack f.dat B1 m1 d1 w k1 j1 (gBad_iff h)
end Go.Proofs.Ytogbncpchmnbdaa

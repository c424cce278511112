/- CtrlSizes. -/
import Derived.Test.YtogbncpchmnbdaaLive4
import Derived.Test.YtogbncpchmnbdaaMathC
import Derived.Test.YtogbncpchmnbdaaSame4
namespace Go.Proofs.Ytogbncpchmnbdaa
open Go.RowKit
set_option linter.unusedVariables false
set_option linter.unusedSimpArgs false
set_option maxHeartbeats 4000000
set_option maxRecDepth 100000

theorem ctrlSizes_walk (w : World) (p : Pkt) (hp : p.Ok) (A1 : Option Addr) (n1 c1 : Nat) (A2 : Option Addr) (n2 c2 : Nat) (k1 : Bs w A1 n1 c1 p.opt) (k2 : Bs w A2 n2 c2 p.dat)
    (f : Frm) (hf : f.Ok) (B2 : Option Addr) (m2 d2 : Nat) (j2 : Bs w B2 m2 d2 f.dat) (hm2 : m2 ≤ 140737488351232) :
    Calls Try.prog 4 #[(.agg #[.int .u8 (p).tos, .int .u16 (p).id, .bool (p).keep, .int .u8 (p).ttl, .int .u8 (p).proto, .int .u32 (p).src, .int .u32 (p).dst, .slice A1 n1 c1, .slice A2 n2 c2]), (.agg #[.int .u16 (f).call, .bool (f).hs, .bool (f).ha, .int .u32 (f).seq, .int .u32 (f).ack, .slice B2 m2 d2])] w fun e w' => e = .returned (.bool true) ∧ Below w.heap.size w w' := by
  have cc := fun W k1 j1 => bg_any p A1 n1 c1 A2 n2 c2 f hf B2 m2 d2 W k1 j1 (by omega)
  obtain ⟨E2, hE2⟩ : ∃ E, bgE p f = E := ⟨_, rfl⟩
  have cok := fun h => bgP_ok (p := p) (f := f) h
  have cno := fun h => bgP_bad (p := p) (f := f) h
  rw [hE2] at cok cno
  simp only [hE2] at cc
  clear hE2
  have hG : gN f = 8 + (if f.hs then 4 else 0) + (if f.ha then 4 else 0) + m2 := by unfold gN; rw [j2.len]
  have hgl := gL_len f
  obtain ⟨k, hk⟩ : ∃ k : Nat, w.heap.size = k := ⟨_, rfl⟩
  obtain ⟨w1, hw1⟩ : ∃ w1, (w.alloc (.cells #[.int .u8 (p).tos, .int .u16 (p).id, .bool (p).keep, .int .u8 (p).ttl, .int .u8 (p).proto, .int .u32 (p).src, .int .u32 (p).dst, .slice A1 n1 c1, .slice A2 n2 c2] 26)).alloc (.cells #[.int .u16 (f).call, .bool (f).hs, .bool (f).ha, .int .u32 (f).seq, .int .u32 (f).ack, .slice B2 m2 d2] 30) = w1 := ⟨_, rfl⟩
  have Q0 : Blk w1 k #[.int .u8 (p).tos, .int .u16 (p).id, .bool (p).keep, .int .u8 (p).ttl, .int .u8 (p).proto, .int .u32 (p).src, .int .u32 (p).dst, .slice A1 n1 c1, .slice A2 n2 c2] 26 := by rw [← hw1]; exact (blk_new w _ _ k hk).alloc _
  have F0 : Blk w1 (k + 1) #[.int .u16 (f).call, .bool (f).hs, .bool (f).ha, .int .u32 (f).seq, .int .u32 (f).ack, .slice B2 m2 d2] 30 := by rw [← hw1]; exact blk_new _ _ _ (k + 1) (by simp [hk])
  have R1 : Below w.heap.size w w1 := by rw [← hw1]; (repeat (first | with_reducible exact Below.refl _ _ | with_reducible refine below_drew ?_ | with_reducible refine below_drewN ?_ _ | with_reducible refine below_alloc ?_ (Nat.le_refl _) _ | with_reducible refine Below.setCell ?_ (by first | exact Nat.le_refl _ | (simp only []; omega)) _ | with_reducible assumption))
  have x1 := k1.below R1
  have y2 := j2.below R1
  have qc := Q0.cell
  have fc := F0.cell
  clear k1 k2 j2
  by_cases h0 : E2 = 0
  · subst h0
    rw [cok rfl] at cc
    obtain ⟨L, hL⟩ : ∃ L, gL f = L := ⟨_, rfl⟩
    simp only [hL] at cc hgl
    have cc2 : ∀ W, Bs W A1 n1 c1 p.opt → Bs W B2 m2 d2 f.dat → Calls Try.prog 16 #[(.agg #[.int .u8 (p).tos, .int .u16 (p).id, .bool (p).keep, .int .u8 (p).ttl, .int .u8 (p).proto, .int .u32 (p).src, .int .u32 (p).dst, .slice A1 n1 c1, .slice A2 n2 c2]), (.agg #[.int .u16 (f).call, .bool (f).hs, .bool (f).ha, .int .u32 (f).seq, .int .u32 (f).ack, .slice B2 m2 d2])] W fun e w' => ∃ C5 e5 g5 C6 e6 g6, e = .returned (.tuple #[.agg #[.int .u8 p.tos, .int .u16 p.id, .bool p.keep, .int .u8 p.ttl, .int .u8 47, .int .u32 p.src, .int .u32 p.dst, .slice C5 e5 g5, .slice C6 e6 g6], .int .i64 0]) ∧ Own w' W.heap.size 5 C6 e6 g6 L ∧ Below W.heap.size W w' := fun W k j => (cc W k j).mono fun e w' hq => by
      obtain ⟨C5, e5, g5, C6, e6, g6, he, -, h2, h3⟩ := hq.out
      exact ⟨C5, e5, g5, C6, e6, g6, he, h2, h3⟩
    clear hL cok cno cc
    obtain ⟨call, hs, ha, seq, ack, dat⟩ := f
    simp only at hG
    cases hs <;> cases ha
    all_goals simp only [if_true, if_false, Bool.false_eq_true] at hG
    all_goals go_enter Try.func4, Try.ntmps4
    all_goals go_wp2_with (first
      | (go_at_call 16; go_loud ((with_reducible refine (cc2 _ x1 y2).mono ?_); rintro e u4 ⟨C5, e5, g5, C6, e6, g6, rfl, O6, hB4⟩; have u6 := O6.len; (rw [hgl, hG] at u6); (obtain ⟨w4, hw4⟩ : ∃ w4, u4.alloc (.cells #[.int .u8 p.tos, .int .u16 p.id, .bool p.keep, .int .u8 p.ttl, .int .u8 47, .int .u32 p.src, .int .u32 p.dst, .slice C5 e5 g5, .slice C6 e6 g6] 26) = w4 := ⟨_, rfl⟩); have V4 : Below u4.heap.size u4 w4 := (by rw [← hw4]; (repeat (first | with_reducible exact Below.refl _ _ | with_reducible refine below_drew ?_ | with_reducible refine below_drewN ?_ _ | with_reducible refine below_alloc ?_ (Nat.le_refl _) _ | with_reducible refine Below.setCell ?_ (by first | exact Nat.le_refl _ | (simp only []; omega)) _ | with_reducible assumption))); (obtain ⟨k4, hk4⟩ : ∃ k, u4.heap.size = k := ⟨_, rfl⟩); have S4 : Blk w4 k4 #[.int .u8 p.tos, .int .u16 p.id, .bool p.keep, .int .u8 p.ttl, .int .u8 47, .int .u32 p.src, .int .u32 p.dst, .slice C5 e5 g5, .slice C6 e6 g6] 26 := (by rw [← hw4]; exact blk_new u4 _ _ k4 hk4); have T4 := below_then hB4 V4; have Q4 := Q0.below T4; have F4 := F0.below T4; have qc4 := Q4.cell; have fc4 := F4.cell; have sc4 := S4.cell))
      | (go_at_call 18; go_loud ((with_reducible refine (live04_any _).mono ?_); rintro e w6 ⟨rfl, hB6⟩; have c4' := (S4.below hB6).cell; have q4' := (Q4.below hB6).cell)))
    all_goals first | (go_ret; exact ⟨rfl, below_then (below_then R1 T4) hB6⟩) | (exfalso; omega) | (exfalso; simp_all; omega) | trace_state
  · rw [cno h0] at cc
    have h0' : (E2 != 0) = true := by simpa using h0
    go_enter Try.func4, Try.ntmps4
    go_wp2_with (first
      | (go_at_call 16; go_loud ((with_reducible refine (cc _ x1 y2).mono ?_); rintro e u4 hpost; (obtain ⟨C5, e5, g5, C6, e6, g6, rfl, O5, O6, hB4⟩ := hpost.out); clear hpost; (obtain ⟨w4, hw4⟩ : ∃ w4, u4.alloc (.cells #[.int .u8 (zP).tos, .int .u16 (zP).id, .bool (zP).keep, .int .u8 (zP).ttl, .int .u8 (zP).proto, .int .u32 (zP).src, .int .u32 (zP).dst, .slice C5 e5 g5, .slice C6 e6 g6] 26) = w4 := ⟨_, rfl⟩); have V4 : Below u4.heap.size u4 w4 := (by rw [← hw4]; (repeat (first | with_reducible exact Below.refl _ _ | with_reducible refine below_drew ?_ | with_reducible refine below_drewN ?_ _ | with_reducible refine below_alloc ?_ (Nat.le_refl _) _ | with_reducible refine Below.setCell ?_ (by first | exact Nat.le_refl _ | (simp only []; omega)) _ | with_reducible assumption))); (obtain ⟨k4, hk4⟩ : ∃ k, u4.heap.size = k := ⟨_, rfl⟩); have S4 : Blk w4 k4 #[.int .u8 (zP).tos, .int .u16 (zP).id, .bool (zP).keep, .int .u8 (zP).ttl, .int .u8 (zP).proto, .int .u32 (zP).src, .int .u32 (zP).dst, .slice C5 e5 g5, .slice C6 e6 g6] 26 := (by rw [← hw4]; exact blk_new u4 _ _ k4 hk4); have T4 := below_then hB4 V4; have sc4 := S4.cell; have r5 := O5.bs.below V4; have r6 := O6.bs.below V4))
      | (go_at_call 18; go_loud ((with_reducible refine (live04_any _).mono ?_); rintro e w6 ⟨rfl, hB6⟩; have c4' := (S4.below hB6).cell; have z5 := r5.below hB6; have z6 := r6.below hB6))
      | (go_at_call 19; go_loud ((with_reducible refine (rsame_zero4 zP C5 e5 g5 C6 e6 g6 _ z5 z6).mono ?_); rintro e w7 ⟨rfl, hB7⟩)))
    go_ret
    exact ⟨rfl, below_then (below_then R1 T4) (below_then hB6 hB7)⟩
end Go.Proofs.Ytogbncpchmnbdaa

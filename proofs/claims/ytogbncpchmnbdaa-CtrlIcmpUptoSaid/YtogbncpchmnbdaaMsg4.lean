/- The document's packet with a message. -/
import Derived.Test.YtogbncpchmnbdaaMsg3
import Derived.Test.YtogbncpchmnbdaaIpR4L
namespace Go.Proofs.Ytogbncpchmnbdaa
open Go.RowKit
set_option linter.unusedVariables false
set_option linter.unusedSimpArgs false
set_option linter.unusedSimpArgs false
set_option maxHeartbeats 4000000
set_option maxRecDepth 100000

theorem rbicmp_4 (p : Pkt) (A1 : Option Addr) (n1 c1 : Nat) (A2 : Option Addr) (n2 c2 : Nat) (m : Msg) (B1 : Option Addr) (m1 d1 : Nat) (w : World) (k1 : Bs w A1 n1 c1 p.opt) (j1 : Bs w B1 m1 d1 m.dat)
    (h : 40 < (n1 : Int) ∨ n1 % 4 ≠ 0) :
    Calls Try.prog 15 #[(.agg #[.int .u8 (p).tos, .int .u16 (p).id, .bool (p).keep, .int .u8 (p).ttl, .int .u8 (p).proto, .int .u32 (p).src, .int .u32 (p).dst, .slice A1 n1 c1, .slice A2 n2 c2]), (.agg #[.int .u8 (m).ty, .int .u8 (m).code, .int .u32 (m).rest, .slice B1 m1 d1])] w (WiPost w zP 4) := by
  have hw0 : ∀ W, Bs W A1 n1 c1 p.opt → Calls Try.prog 41 #[(.agg #[.int .u8 (p).tos, .int .u16 (p).id, .bool (p).keep, .int .u8 (p).ttl, .int .u8 (p).proto, .int .u32 (p).src, .int .u32 (p).dst, .slice A1 n1 c1, .slice A2 n2 c2]), .int .u8 1, .slice none 0 0] W (fun e w' => ∃ C1 e1 f1 C2 e2 f2, e = .returned (.tuple #[.agg #[.int .u8 0, .int .u16 0, .bool false, .int .u8 0, .int .u8 0, .int .u32 0, .int .u32 0, .slice C1 e1 f1, .slice C2 e2 f2], .int .i64 4]) ∧ Own w' W.heap.size 5 C1 e1 f1 [] ∧ Own w' W.heap.size 5 C2 e2 f2 [] ∧ Below W.heap.size W w') := fun W kk => by
    have hh := rwith_any p A1 n1 c1 A2 n2 c2 1 none 0 0 [] W kk (Bs.none_ W)
    unfold withP at hh
    rw [wiE_4 k1.len h, if_neg (by decide)] at hh
    exact hh.mono fun e w' hq => hq.out
  have b1 := j1.max
  obtain ⟨k, hk⟩ : ∃ k : Nat, w.heap.size = k := ⟨_, rfl⟩
  obtain ⟨w1, hw1⟩ : ∃ w1, ((w.alloc (.cells #[.int .u8 (p).tos, .int .u16 (p).id, .bool (p).keep, .int .u8 (p).ttl, .int .u8 (p).proto, .int .u32 (p).src, .int .u32 (p).dst, .slice A1 n1 c1, .slice A2 n2 c2] 26)).alloc (.cells #[.int .u8 (m).ty, .int .u8 (m).code, .int .u32 (m).rest, .slice B1 m1 d1] 28)).alloc (.cells #[.int .u8 0, .int .u16 0, .bool false, .int .u8 0, .int .u8 0, .int .u32 0, .int .u32 0, .slice none 0 0, .slice none 0 0] 26) = w1 := ⟨_, rfl⟩
  have P1 : Blk w1 k #[.int .u8 (p).tos, .int .u16 (p).id, .bool (p).keep, .int .u8 (p).ttl, .int .u8 (p).proto, .int .u32 (p).src, .int .u32 (p).dst, .slice A1 n1 c1, .slice A2 n2 c2] 26 := by rw [← hw1]; exact ((blk_new w _ _ k hk).alloc _).alloc _
  have M1 : Blk w1 (k + 1) #[.int .u8 (m).ty, .int .u8 (m).code, .int .u32 (m).rest, .slice B1 m1 d1] 28 := by rw [← hw1]; exact (blk_new _ _ _ (k + 1) (by simp [hk])).alloc _
  have Z1 : Blk w1 (k + 1 + 1) #[.int .u8 0, .int .u16 0, .bool false, .int .u8 0, .int .u8 0, .int .u32 0, .int .u32 0, .slice none 0 0, .slice none 0 0] 26 := by rw [← hw1]; exact blk_new _ _ _ (k + 1 + 1) (by simp [hk])
  have R1 : Below w.heap.size w w1 := by rw [← hw1]; (repeat (first | with_reducible exact Below.refl _ _ | with_reducible refine below_drew ?_ | with_reducible refine below_drewN ?_ _ | with_reducible refine below_alloc ?_ (Nat.le_refl _) _ | with_reducible refine Below.setCell ?_ (by first | exact Nat.le_refl _ | (simp only []; omega)) _ | with_reducible assumption))
  have x1 := k1.below R1
  have y1 := j1.below R1
  have pc := P1.cell
  have mc := M1.cell
  have kl1 := P1.lt
  have ml1 := M1.lt
  go_enter Try.func15, Try.ntmps15
  go_wp2_with (go_at_call 41; ((with_reducible refine (hw0 w1 x1).mono ?_); rintro e w4 ⟨C1, e1, f1, C2, e2, f2, rfl, O1, O2, hB4⟩); (obtain ⟨w5, hw5⟩ : ∃ w5, w4.alloc (.cells #[.int .u8 0, .int .u16 0, .bool false, .int .u8 0, .int .u8 0, .int .u32 0, .int .u32 0, .slice C1 e1 f1, .slice C2 e2 f2] 26) = w5 := ⟨_, rfl⟩); have V5 : Below w4.heap.size w4 w5 := (by rw [← hw5]; (repeat (first | with_reducible exact Below.refl _ _ | with_reducible refine below_drew ?_ | with_reducible refine below_drewN ?_ _ | with_reducible refine below_alloc ?_ (Nat.le_refl _) _ | with_reducible refine Below.setCell ?_ (by first | exact Nat.le_refl _ | (simp only []; omega)) _ | with_reducible assumption))); have T5 := below_then hB4 V5; have P5 := P1.below T5; have M5 := M1.below T5; have Z5 := Z1.below T5; have pc5 := P5.cell; have mc5 := M5.cell; have zc5 := Z5.cell; have kl5 := P5.lt; have ml5 := M5.lt)
  obtain ⟨wf, hwf, Sf⟩ := store9 Z5 (.int .u8 0) (.int .u16 0) (.bool false) (.int .u8 0) (.int .u8 0) (.int .u32 0) (.int .u32 0) (.slice none 0 0) (.slice none 0 0)
  rw [hwf]
  have pf := Sf.blk.cell
  exact bodyPost_ret (by simp [results, Try.results15, go_sem, pf]) rfl (wiPost_no (Sf.bel (below_then R1 T5) (by omega)))
theorem rbicmp_8 (p : Pkt) (A1 : Option Addr) (n1 c1 : Nat) (A2 : Option Addr) (n2 c2 : Nat) (m : Msg) (B1 : Option Addr) (m1 d1 : Nat) (w : World) (k1 : Bs w A1 n1 c1 p.opt) (j1 : Bs w B1 m1 d1 m.dat)
    (h1 : (n1 : Int) ≤ 40) (h2 : n1 % 4 = 0) (h3 : 65535 < 28 + (n1 : Int) + m1) :
    Calls Try.prog 15 #[(.agg #[.int .u8 (p).tos, .int .u16 (p).id, .bool (p).keep, .int .u8 (p).ttl, .int .u8 (p).proto, .int .u32 (p).src, .int .u32 (p).dst, .slice A1 n1 c1, .slice A2 n2 c2]), (.agg #[.int .u8 (m).ty, .int .u8 (m).code, .int .u32 (m).rest, .slice B1 m1 d1])] w (WiPost w zP 8) := by
  have hw0 : ∀ W, Bs W A1 n1 c1 p.opt → Calls Try.prog 41 #[(.agg #[.int .u8 (p).tos, .int .u16 (p).id, .bool (p).keep, .int .u8 (p).ttl, .int .u8 (p).proto, .int .u32 (p).src, .int .u32 (p).dst, .slice A1 n1 c1, .slice A2 n2 c2]), .int .u8 1, .slice none 0 0] W (fun e w' => ∃ C1 e1 f1 C2 e2 f2, e = .returned (.tuple #[.agg #[.int .u8 p.tos, .int .u16 p.id, .bool p.keep, .int .u8 p.ttl, .int .u8 1, .int .u32 p.src, .int .u32 p.dst, .slice C1 e1 f1, .slice C2 e2 f2], .int .i64 0]) ∧ Own w' W.heap.size 5 C1 e1 f1 p.opt ∧ Own w' W.heap.size 5 C2 e2 f2 [] ∧ Below W.heap.size W w') := fun W kk => by
    have hh := rwith_any p A1 n1 c1 A2 n2 c2 1 none 0 0 [] W kk (Bs.none_ W)
    unfold withP at hh
    rw [show ([] : List UInt8).length = 0 from rfl, wiE_0 k1.len h1 h2 (by omega), if_pos rfl] at hh
    exact hh.mono fun e w' hq => hq.out
  have b1 := j1.max
  obtain ⟨k, hk⟩ : ∃ k : Nat, w.heap.size = k := ⟨_, rfl⟩
  obtain ⟨w1, hw1⟩ : ∃ w1, ((w.alloc (.cells #[.int .u8 (p).tos, .int .u16 (p).id, .bool (p).keep, .int .u8 (p).ttl, .int .u8 (p).proto, .int .u32 (p).src, .int .u32 (p).dst, .slice A1 n1 c1, .slice A2 n2 c2] 26)).alloc (.cells #[.int .u8 (m).ty, .int .u8 (m).code, .int .u32 (m).rest, .slice B1 m1 d1] 28)).alloc (.cells #[.int .u8 0, .int .u16 0, .bool false, .int .u8 0, .int .u8 0, .int .u32 0, .int .u32 0, .slice none 0 0, .slice none 0 0] 26) = w1 := ⟨_, rfl⟩
  have P1 : Blk w1 k #[.int .u8 (p).tos, .int .u16 (p).id, .bool (p).keep, .int .u8 (p).ttl, .int .u8 (p).proto, .int .u32 (p).src, .int .u32 (p).dst, .slice A1 n1 c1, .slice A2 n2 c2] 26 := by rw [← hw1]; exact ((blk_new w _ _ k hk).alloc _).alloc _
  have M1 : Blk w1 (k + 1) #[.int .u8 (m).ty, .int .u8 (m).code, .int .u32 (m).rest, .slice B1 m1 d1] 28 := by rw [← hw1]; exact (blk_new _ _ _ (k + 1) (by simp [hk])).alloc _
  have Z1 : Blk w1 (k + 1 + 1) #[.int .u8 0, .int .u16 0, .bool false, .int .u8 0, .int .u8 0, .int .u32 0, .int .u32 0, .slice none 0 0, .slice none 0 0] 26 := by rw [← hw1]; exact blk_new _ _ _ (k + 1 + 1) (by simp [hk])
  have R1 : Below w.heap.size w w1 := by rw [← hw1]; (repeat (first | with_reducible exact Below.refl _ _ | with_reducible refine below_drew ?_ | with_reducible refine below_drewN ?_ _ | with_reducible refine below_alloc ?_ (Nat.le_refl _) _ | with_reducible refine Below.setCell ?_ (by first | exact Nat.le_refl _ | (simp only []; omega)) _ | with_reducible assumption))
  have x1 := k1.below R1
  have y1 := j1.below R1
  have pc := P1.cell
  have mc := M1.cell
  have kl1 := P1.lt
  have ml1 := M1.lt
  go_enter Try.func15, Try.ntmps15
  go_wp2_with (go_at_call 41; ((with_reducible refine (hw0 w1 x1).mono ?_); rintro e w4 ⟨C1, e1, f1, C2, e2, f2, rfl, O1, O2, hB4⟩); (obtain ⟨w5, hw5⟩ : ∃ w5, w4.alloc (.cells #[.int .u8 p.tos, .int .u16 p.id, .bool p.keep, .int .u8 p.ttl, .int .u8 1, .int .u32 p.src, .int .u32 p.dst, .slice C1 e1 f1, .slice C2 e2 f2] 26) = w5 := ⟨_, rfl⟩); have V5 : Below w4.heap.size w4 w5 := (by rw [← hw5]; (repeat (first | with_reducible exact Below.refl _ _ | with_reducible refine below_drew ?_ | with_reducible refine below_drewN ?_ _ | with_reducible refine below_alloc ?_ (Nat.le_refl _) _ | with_reducible refine Below.setCell ?_ (by first | exact Nat.le_refl _ | (simp only []; omega)) _ | with_reducible assumption))); have T5 := below_then hB4 V5; have P5 := P1.below T5; have M5 := M1.below T5; have Z5 := Z1.below T5; have pc5 := P5.cell; have mc5 := M5.cell; have zc5 := Z5.cell; have kl5 := P5.lt; have ml5 := M5.lt)
  obtain ⟨wf, hwf, Sf⟩ := store9 Z5 (.int .u8 0) (.int .u16 0) (.bool false) (.int .u8 0) (.int .u8 0) (.int .u32 0) (.int .u32 0) (.slice none 0 0) (.slice none 0 0)
  rw [hwf]
  have pf := Sf.blk.cell
  exact bodyPost_ret (by simp [results, Try.results15, go_sem, pf]) rfl (wiPost_no (Sf.bel (below_then R1 T5) (by omega)))
theorem rbicmp_0 (p : Pkt) (A1 : Option Addr) (n1 c1 : Nat) (A2 : Option Addr) (n2 c2 : Nat) (m : Msg) (hm : m.Ok) (B1 : Option Addr) (m1 d1 : Nat) (w : World) (k1 : Bs w A1 n1 c1 p.opt) (j1 : Bs w B1 m1 d1 m.dat)
    (h1 : (n1 : Int) ≤ 40) (h2 : n1 % 4 = 0) (h3 : 28 + (n1 : Int) + m1 ≤ 65535) :
    Calls Try.prog 15 #[(.agg #[.int .u8 (p).tos, .int .u16 (p).id, .bool (p).keep, .int .u8 (p).ttl, .int .u8 (p).proto, .int .u32 (p).src, .int .u32 (p).dst, .slice A1 n1 c1, .slice A2 n2 c2]), (.agg #[.int .u8 (m).ty, .int .u8 (m).code, .int .u32 (m).rest, .slice B1 m1 d1])] w (WiPost w { p with proto := 1, dat := mS m } 0) := by
  have hw0 : ∀ W, Bs W A1 n1 c1 p.opt → Calls Try.prog 41 #[(.agg #[.int .u8 (p).tos, .int .u16 (p).id, .bool (p).keep, .int .u8 (p).ttl, .int .u8 (p).proto, .int .u32 (p).src, .int .u32 (p).dst, .slice A1 n1 c1, .slice A2 n2 c2]), .int .u8 1, .slice none 0 0] W (fun e w' => ∃ C1 e1 f1 C2 e2 f2, e = .returned (.tuple #[.agg #[.int .u8 p.tos, .int .u16 p.id, .bool p.keep, .int .u8 p.ttl, .int .u8 1, .int .u32 p.src, .int .u32 p.dst, .slice C1 e1 f1, .slice C2 e2 f2], .int .i64 0]) ∧ Own w' W.heap.size 5 C1 e1 f1 p.opt ∧ Own w' W.heap.size 5 C2 e2 f2 [] ∧ Below W.heap.size W w') := fun W kk => by
    have hh := rwith_any p A1 n1 c1 A2 n2 c2 1 none 0 0 [] W kk (Bs.none_ W)
    unfold withP at hh
    rw [show ([] : List UInt8).length = 0 from rfl, wiE_0 k1.len h1 h2 (by omega), if_pos rfl] at hh
    exact hh.mono fun e w' hq => hq.out
  have hw1' : ∀ W A n c, Bs W A1 n1 c1 p.opt → Bs W A n c (mS m) → Calls Try.prog 41 #[(.agg #[.int .u8 (p).tos, .int .u16 (p).id, .bool (p).keep, .int .u8 (p).ttl, .int .u8 (p).proto, .int .u32 (p).src, .int .u32 (p).dst, .slice A1 n1 c1, .slice A2 n2 c2]), .int .u8 1, .slice A n c] W (fun e w' => ∃ C1 e1 f1 C2 e2 f2, e = .returned (.tuple #[.agg #[.int .u8 p.tos, .int .u16 p.id, .bool p.keep, .int .u8 p.ttl, .int .u8 1, .int .u32 p.src, .int .u32 p.dst, .slice C1 e1 f1, .slice C2 e2 f2], .int .i64 0]) ∧ Own w' W.heap.size 5 C1 e1 f1 p.opt ∧ Own w' W.heap.size 5 C2 e2 f2 (mS m) ∧ Below W.heap.size W w') := fun W A n c kk ks => by
    have hh := rwith_any p A1 n1 c1 A2 n2 c2 1 A n c (mS m) W kk ks
    unfold withP at hh
    rw [mS_len, j1.len, wiE_0 k1.len h1 h2 (by omega), if_pos rfl] at hh
    exact hh.mono fun e w' hq => hq.out
  have b1 := j1.max
  have jl := j1.len
  obtain ⟨⟨t0, t1⟩, ⟨u0, u1⟩, ⟨r0, r1⟩⟩ := hm
  have L4 := fun W => lit4 (e := 5) (x := m.ty) (y := m.code) (z := 0) (u := 0) t0 t1 u0 u1 (by omega) (by omega) (by omega) (by omega) W
  have HM : Hid ([ub m.ty, ub m.code, ub 0, ub 0] ++ four m.rest ++ m.dat = mL m) := rfl
  have HS : Hid (put16 (mL m) 2 (csum (mL m)) = mS m) := rfl
  have HL : Hid ((mL m).length = 8 + m1) := by unfold Hid; rw [mL_len, jl]
  clear jl
  obtain ⟨k, hk⟩ : ∃ k : Nat, w.heap.size = k := ⟨_, rfl⟩
  obtain ⟨w1, hw1⟩ : ∃ w1, ((w.alloc (.cells #[.int .u8 (p).tos, .int .u16 (p).id, .bool (p).keep, .int .u8 (p).ttl, .int .u8 (p).proto, .int .u32 (p).src, .int .u32 (p).dst, .slice A1 n1 c1, .slice A2 n2 c2] 26)).alloc (.cells #[.int .u8 (m).ty, .int .u8 (m).code, .int .u32 (m).rest, .slice B1 m1 d1] 28)).alloc (.cells #[.int .u8 0, .int .u16 0, .bool false, .int .u8 0, .int .u8 0, .int .u32 0, .int .u32 0, .slice none 0 0, .slice none 0 0] 26) = w1 := ⟨_, rfl⟩
  have P1 : Blk w1 k #[.int .u8 (p).tos, .int .u16 (p).id, .bool (p).keep, .int .u8 (p).ttl, .int .u8 (p).proto, .int .u32 (p).src, .int .u32 (p).dst, .slice A1 n1 c1, .slice A2 n2 c2] 26 := by rw [← hw1]; exact ((blk_new w _ _ k hk).alloc _).alloc _
  have M1 : Blk w1 (k + 1) #[.int .u8 (m).ty, .int .u8 (m).code, .int .u32 (m).rest, .slice B1 m1 d1] 28 := by rw [← hw1]; exact (blk_new _ _ _ (k + 1) (by simp [hk])).alloc _
  have Z1 : Blk w1 (k + 1 + 1) #[.int .u8 0, .int .u16 0, .bool false, .int .u8 0, .int .u8 0, .int .u32 0, .int .u32 0, .slice none 0 0, .slice none 0 0] 26 := by rw [← hw1]; exact blk_new _ _ _ (k + 1 + 1) (by simp [hk])
  have R1 : Below w.heap.size w w1 := by rw [← hw1]; (repeat (first | with_reducible exact Below.refl _ _ | with_reducible refine below_drew ?_ | with_reducible refine below_drewN ?_ _ | with_reducible refine below_alloc ?_ (Nat.le_refl _) _ | with_reducible refine Below.setCell ?_ (by first | exact Nat.le_refl _ | (simp only []; omega)) _ | with_reducible assumption))
  have x1 := k1.below R1
  have y1 := j1.below R1
  have pc := P1.cell
  have mc := M1.cell
  have kl1 := P1.lt
  have ml1 := M1.lt
  go_enter Try.func15, Try.ntmps15
  go_wp2_with (go_at_call 41; ((with_reducible refine (hw0 w1 x1).mono ?_); rintro e w4 ⟨C1, e1, f1, C2, e2, f2, rfl, O1, O2, hB4⟩); (obtain ⟨w5, hw5⟩ : ∃ w5, w4.alloc (.cells #[.int .u8 p.tos, .int .u16 p.id, .bool p.keep, .int .u8 p.ttl, .int .u8 1, .int .u32 p.src, .int .u32 p.dst, .slice C1 e1 f1, .slice C2 e2 f2] 26) = w5 := ⟨_, rfl⟩); have V5 : Below w4.heap.size w4 w5 := (by rw [← hw5]; (repeat (first | with_reducible exact Below.refl _ _ | with_reducible refine below_drew ?_ | with_reducible refine below_drewN ?_ _ | with_reducible refine below_alloc ?_ (Nat.le_refl _) _ | with_reducible refine Below.setCell ?_ (by first | exact Nat.le_refl _ | (simp only []; omega)) _ | with_reducible assumption))); have T5 := below_then hB4 V5; have P5 := P1.below T5; have M5 := M1.below T5; have Z5 := Z1.below T5; have pc5 := P5.cell; have mc5 := M5.cell; have zc5 := Z5.cell; have kl5 := P5.lt; have ml5 := M5.lt)
  obtain ⟨w6, hw6⟩ : ∃ w6, w5.alloc (.cells #[.int .u8 m.ty, .int .u8 m.code, .int .u8 0, .int .u8 0] 5) = w6 := ⟨_, rfl⟩
  have OL := L4 w5
  have V6 : Below w5.heap.size w5 w6 := by rw [← hw6]; (repeat (first | with_reducible exact Below.refl _ _ | with_reducible refine below_drew ?_ | with_reducible refine below_drewN ?_ _ | with_reducible refine below_alloc ?_ (Nat.le_refl _) _ | with_reducible refine Below.setCell ?_ (by first | exact Nat.le_refl _ | (simp only []; omega)) _ | with_reducible assumption))
  rw [hw6] at OL ⊢
  have M6 := M5.below V6
  have P6 := P5.below V6
  have Z6 := Z5.below V6
  have T6 := below_then T5 V6
  have y6 := y1.below T6
  have v6s := V6.size
  clear hw6 hw5 pc5 mc5 zc5 pc mc
  refine region_txt 7 (by kernel_rfl) (by kernel_rfl) ?_; (iterate 7 (first | (apply ObsK.skip (by rfl)) | (apply ObsK.v (by rfl); (intro wo hT; (repeat (first | (intro v hv; (fail)) | (intro _ _ k; try have hcv := cv k))); (have mc := (M6.below hT).cell; have hsz : w5.heap.size ≤ wo.heap.size := Nat.le_trans v6s hT.size); refine Goes.mk ?_; first | (exact goes_app _ _ rfl rfl (OL.below hT) rfl (by assumption) (by omega) hsz) | (go_simp; first | exact goes_v | exact goes_b (by assumption) | fail | (refine goes_enter ?_; first | (go_at_call 42; ((with_reducible refine (four_any m.rest r0 r1 wo).mono ?_); rintro e w9 ⟨A9, c9, rfl, ho9, hB9⟩); exact ret_b ho9.bs hB9))))) | (apply ObsK.b (by rfl); (intro wo hT; (repeat (first | (intro v hv; (fail)) | (intro _ _ k; try have hcv := cv k))); (have mc := (M6.below hT).cell; have hsz : w5.heap.size ≤ wo.heap.size := Nat.le_trans v6s hT.size); refine Goes.mk ?_; first | (exact goes_app _ _ rfl rfl (OL.below hT) rfl (by assumption) (by omega) hsz) | (go_simp; first | exact goes_v | exact goes_b (by assumption) | fail | (refine goes_enter ?_; first | (go_at_call 42; ((with_reducible refine (four_any m.rest r0 r1 wo).mono ?_); rintro e w9 ⟨A9, c9, rfl, ho9, hB9⟩); exact ret_b ho9.bs hB9))))) | (apply ObsK.p (q := isW w5.heap.size _) (by rfl) st_isW; (intro wo hT; (repeat (first | (intro v hv; (fail)) | (intro _ _ k; try have hcv := cv k))); (have mc := (M6.below hT).cell; have hsz : w5.heap.size ≤ wo.heap.size := Nat.le_trans v6s hT.size); refine Goes.mk ?_; first | (exact goes_app _ _ rfl rfl (OL.below hT) rfl (by assumption) (by omega) hsz) | (go_simp; first | exact goes_v | exact goes_b (by assumption) | fail | (refine goes_enter ?_; first | (go_at_call 42; ((with_reducible refine (four_any m.rest r0 r1 wo).mono ?_); rintro e w9 ⟨A9, c9, rfl, ho9, hB9⟩); exact ret_b ho9.bs hB9))))))); refine ObsK.nil ?_; intro wz hBz; simp only [finOn, List.drop_succ_cons, List.drop_zero, List.drop_nil]
  rintro v7 ⟨A7, n7, c7, rfl, O7⟩ A9 c9 k9
  go_simp
  have u7 : n7 = 8 := by rw [← O7.len]; rfl
  subst u7
  have y7 := y6.below hBz
  have V7 := below_then V6 hBz
  go_wp2_with (first
    | (at_builtin; refine wpList_append_bs (w0 := w5) _ rfl _ _ _ rfl w5.heap.size 5 Try.underlying24 info_u8 A7 8 c7 _ rfl O7 B1 m1 d1 m.dat rfl y7 V7 (by omega) (by first | exact Nat.le_refl _ | exact Below.size V7 | omega | (simp <;> omega)) ?_; intro A8 n8 c8 w8 ho8 hB8 _ hz8; rw [HM.out] at ho8))
  have T8 := below_then T5 hB8
  have P8 := P1.below T8
  have Z8 := Z1.below T8
  have x8 := x1.below T8
  have o8 := ho8.bs
  have l8 : n8 ≤ 65535 := by rw [← ho8.len, HL.out]; omega
  refine region_txt 8 (by kernel_rfl) (by kernel_rfl) ?_; (iterate 8 (first | (apply ObsK.skip (by rfl)) | (apply ObsK.v (by rfl); (intro wo hT; (repeat (first | (intro v hv; ((first | (obtain ⟨A11, n11, c11, rfl, o11⟩ := hv; have ob11 := o11.bs) | (obtain ⟨D1, g1, h1', D2, g2, h2', rfl, o13, o14⟩ := hv)))) | (intro _ _ k; try have hcv := cv k))); (have qc := (P8.below hT).cell; have bo := o8.below hT; have xo := x8.below hT; have hsz : w8.heap.size ≤ wo.heap.size := hT.size); refine Goes.mk ?_; go_simp; first | exact goes_v | exact goes_b (by assumption) | exact goes_pk (P := { p with proto := 1, dat := mS m }) (by assumption) (by assumption) | (refine goes_enter ?_; first | (go_at_call 44; ((with_reducible refine (rsum_any A8 n8 c8 (mL m) (by omega) wo bo).mono ?_); rintro e w9 ⟨rfl, hB9⟩); exact ret_v hB9) | (go_at_call 43; ((with_reducible refine (rput16_any A8 n8 c8 (mL m) 2 _ (csum_lo _) (csum_hi _) wo bo).mono ?_); rintro e w9 ⟨A9, c9, rfl, ho9, hB9⟩); rw [HS.out] at ho9; exact ret_p (own_isW ho9 hsz) hB9) | (go_at_call 41; ((with_reducible refine (hw1' wo A11 n11 c11 xo ob11).mono ?_); rintro e w12 ⟨D1, g1, h1', D2, g2, h2', rfl, O13, O14, hB12⟩); exact ret_tup (P := { p with proto := 1, dat := mS m }) (O13.mono hsz) (O14.mono hsz) hB12)))) | (apply ObsK.b (by rfl); (intro wo hT; (repeat (first | (intro v hv; ((first | (obtain ⟨A11, n11, c11, rfl, o11⟩ := hv; have ob11 := o11.bs) | (obtain ⟨D1, g1, h1', D2, g2, h2', rfl, o13, o14⟩ := hv)))) | (intro _ _ k; try have hcv := cv k))); (have qc := (P8.below hT).cell; have bo := o8.below hT; have xo := x8.below hT; have hsz : w8.heap.size ≤ wo.heap.size := hT.size); refine Goes.mk ?_; go_simp; first | exact goes_v | exact goes_b (by assumption) | exact goes_pk (P := { p with proto := 1, dat := mS m }) (by assumption) (by assumption) | (refine goes_enter ?_; first | (go_at_call 44; ((with_reducible refine (rsum_any A8 n8 c8 (mL m) (by omega) wo bo).mono ?_); rintro e w9 ⟨rfl, hB9⟩); exact ret_v hB9) | (go_at_call 43; ((with_reducible refine (rput16_any A8 n8 c8 (mL m) 2 _ (csum_lo _) (csum_hi _) wo bo).mono ?_); rintro e w9 ⟨A9, c9, rfl, ho9, hB9⟩); rw [HS.out] at ho9; exact ret_p (own_isW ho9 hsz) hB9) | (go_at_call 41; ((with_reducible refine (hw1' wo A11 n11 c11 xo ob11).mono ?_); rintro e w12 ⟨D1, g1, h1', D2, g2, h2', rfl, O13, O14, hB12⟩); exact ret_tup (P := { p with proto := 1, dat := mS m }) (O13.mono hsz) (O14.mono hsz) hB12)))) | (apply ObsK.p (q := isW w8.heap.size _) (by rfl) st_isW; (intro wo hT; (repeat (first | (intro v hv; ((first | (obtain ⟨A11, n11, c11, rfl, o11⟩ := hv; have ob11 := o11.bs) | (obtain ⟨D1, g1, h1', D2, g2, h2', rfl, o13, o14⟩ := hv)))) | (intro _ _ k; try have hcv := cv k))); (have qc := (P8.below hT).cell; have bo := o8.below hT; have xo := x8.below hT; have hsz : w8.heap.size ≤ wo.heap.size := hT.size); refine Goes.mk ?_; go_simp; first | exact goes_v | exact goes_b (by assumption) | exact goes_pk (P := { p with proto := 1, dat := mS m }) (by assumption) (by assumption) | (refine goes_enter ?_; first | (go_at_call 44; ((with_reducible refine (rsum_any A8 n8 c8 (mL m) (by omega) wo bo).mono ?_); rintro e w9 ⟨rfl, hB9⟩); exact ret_v hB9) | (go_at_call 43; ((with_reducible refine (rput16_any A8 n8 c8 (mL m) 2 _ (csum_lo _) (csum_hi _) wo bo).mono ?_); rintro e w9 ⟨A9, c9, rfl, ho9, hB9⟩); rw [HS.out] at ho9; exact ret_p (own_isW ho9 hsz) hB9) | (go_at_call 41; ((with_reducible refine (hw1' wo A11 n11 c11 xo ob11).mono ?_); rintro e w12 ⟨D1, g1, h1', D2, g2, h2', rfl, O13, O14, hB12⟩); exact ret_tup (P := { p with proto := 1, dat := mS m }) (O13.mono hsz) (O14.mono hsz) hB12)))) | (apply ObsK.p (q := isTup w8.heap.size { p with proto := 1, dat := mS m } 0) (by rfl) st_isTup; (intro wo hT; (repeat (first | (intro v hv; ((first | (obtain ⟨A11, n11, c11, rfl, o11⟩ := hv; have ob11 := o11.bs) | (obtain ⟨D1, g1, h1', D2, g2, h2', rfl, o13, o14⟩ := hv)))) | (intro _ _ k; try have hcv := cv k))); (have qc := (P8.below hT).cell; have bo := o8.below hT; have xo := x8.below hT; have hsz : w8.heap.size ≤ wo.heap.size := hT.size); refine Goes.mk ?_; go_simp; first | exact goes_v | exact goes_b (by assumption) | exact goes_pk (P := { p with proto := 1, dat := mS m }) (by assumption) (by assumption) | (refine goes_enter ?_; first | (go_at_call 44; ((with_reducible refine (rsum_any A8 n8 c8 (mL m) (by omega) wo bo).mono ?_); rintro e w9 ⟨rfl, hB9⟩); exact ret_v hB9) | (go_at_call 43; ((with_reducible refine (rput16_any A8 n8 c8 (mL m) 2 _ (csum_lo _) (csum_hi _) wo bo).mono ?_); rintro e w9 ⟨A9, c9, rfl, ho9, hB9⟩); rw [HS.out] at ho9; exact ret_p (own_isW ho9 hsz) hB9) | (go_at_call 41; ((with_reducible refine (hw1' wo A11 n11 c11 xo ob11).mono ?_); rintro e w12 ⟨D1, g1, h1', D2, g2, h2', rfl, O13, O14, hB12⟩); exact ret_tup (P := { p with proto := 1, dat := mS m }) (O13.mono hsz) (O14.mono hsz) hB12)))) | (apply ObsK.p (q := isPk w8.heap.size { p with proto := 1, dat := mS m }) (by rfl) st_isPk; (intro wo hT; (repeat (first | (intro v hv; ((first | (obtain ⟨A11, n11, c11, rfl, o11⟩ := hv; have ob11 := o11.bs) | (obtain ⟨D1, g1, h1', D2, g2, h2', rfl, o13, o14⟩ := hv)))) | (intro _ _ k; try have hcv := cv k))); (have qc := (P8.below hT).cell; have bo := o8.below hT; have xo := x8.below hT; have hsz : w8.heap.size ≤ wo.heap.size := hT.size); refine Goes.mk ?_; go_simp; first | exact goes_v | exact goes_b (by assumption) | exact goes_pk (P := { p with proto := 1, dat := mS m }) (by assumption) (by assumption) | (refine goes_enter ?_; first | (go_at_call 44; ((with_reducible refine (rsum_any A8 n8 c8 (mL m) (by omega) wo bo).mono ?_); rintro e w9 ⟨rfl, hB9⟩); exact ret_v hB9) | (go_at_call 43; ((with_reducible refine (rput16_any A8 n8 c8 (mL m) 2 _ (csum_lo _) (csum_hi _) wo bo).mono ?_); rintro e w9 ⟨A9, c9, rfl, ho9, hB9⟩); rw [HS.out] at ho9; exact ret_p (own_isW ho9 hsz) hB9) | (go_at_call 41; ((with_reducible refine (hw1' wo A11 n11 c11 xo ob11).mono ?_); rintro e w12 ⟨D1, g1, h1', D2, g2, h2', rfl, O13, O14, hB12⟩); exact ret_tup (P := { p with proto := 1, dat := mS m }) (O13.mono hsz) (O14.mono hsz) hB12)))))); refine ObsK.nil ?_; intro wz hBz; simp only [finOn, List.drop_succ_cons, List.drop_zero, List.drop_nil]
  rintro v12 ⟨D1, g1, h1', D2, g2, h2', rfl, O13, O14⟩ v13 hv13 v14 hv14
  clear hv13 hv14
  go_simp
  have T11 := below_then T8 hBz
  have Z12 := Z8.below hBz
  have zc12 := Z12.cell
  have zl8 := Z8.lt
  go_wp2_with fail
  obtain ⟨wf, hwf, Sf⟩ := store9 Z12 (.int .u8 p.tos) (.int .u16 p.id) (.bool p.keep) (.int .u8 p.ttl) (.int .u8 1) (.int .u32 p.src) (.int .u32 p.dst) (.slice D1 g1 h1') (.slice D2 g2 h2')
  rw [hwf]
  have pf := Sf.blk.cell
  have Of := Sf.own O13 (fun a e => by have := O13.ge a e; omega)
  have Df := Sf.own O14 (fun a e => by have := O14.ge a e; omega)
  have s11 := (below_then R1 T8).size
  refine bodyPost_ret (v := .tuple #[.agg #[.int .u8 p.tos, .int .u16 p.id, .bool p.keep, .int .u8 p.ttl, .int .u8 1, .int .u32 p.src, .int .u32 p.dst, .slice D1 g1 h1', .slice D2 g2 h2'], .int .i64 0]) (by simp [results, Try.results15, go_sem, pf]) rfl ⟨⟨D1, g1, h1', D2, g2, h2', rfl, Of.mono s11, Df.mono s11, Sf.bel (below_then R1 T11) (by omega)⟩⟩
theorem rbicmp_any (p : Pkt) (A1 : Option Addr) (n1 c1 : Nat) (A2 : Option Addr) (n2 c2 : Nat) (m : Msg) (hm : m.Ok) (B1 : Option Addr) (m1 d1 : Nat) (w : World) (k1 : Bs w A1 n1 c1 p.opt) (j1 : Bs w B1 m1 d1 m.dat) :
    Calls Try.prog 15 #[(.agg #[.int .u8 (p).tos, .int .u16 (p).id, .bool (p).keep, .int .u8 (p).ttl, .int .u8 (p).proto, .int .u32 (p).src, .int .u32 (p).dst, .slice A1 n1 c1, .slice A2 n2 c2]), (.agg #[.int .u8 (m).ty, .int .u8 (m).code, .int .u32 (m).rest, .slice B1 m1 d1])] w (WiPost w (withP p 1 (mS m)) (wiE p (8 + m.dat.length))) := by
  have l1 := k1.len
  unfold withP
  rw [mS_len, j1.len]
  by_cases h1 : (n1 : Int) ≤ 40
  · by_cases h2 : n1 % 4 = 0
    · by_cases h3 : 28 + (n1 : Int) + m1 ≤ 65535
      · rw [wiE_0 l1 h1 h2 (by omega), if_pos rfl]
        exact rbicmp_0 p A1 n1 c1 A2 n2 c2 m hm B1 m1 d1 w k1 j1 h1 h2 h3
      · rw [wiE_8 l1 h1 h2 (by omega), if_neg (by decide)]
        exact rbicmp_8 p A1 n1 c1 A2 n2 c2 m B1 m1 d1 w k1 j1 h1 h2 (by omega)
    · rw [wiE_4 l1 (.inr h2), if_neg (by decide)]
      exact rbicmp_4 p A1 n1 c1 A2 n2 c2 m B1 m1 d1 w k1 j1 (.inr h2)
  · rw [wiE_4 l1 (.inl (by omega)), if_neg (by decide)]
    exact rbicmp_4 p A1 n1 c1 A2 n2 c2 m B1 m1 d1 w k1 j1 (.inl (by omega))
end Go.Proofs.Ytogbncpchmnbdaa

/- Parts of the proofs of this seat, laid together. -/
import Derived.Test.YthgoffbfgdgkpaaRows
import Derived.WalkKit
import Derived.ProofKit
import Derived.OpenShut
import Derived.ChangeOld
import Derived.Below
import Derived.SizedLaws
import Derived.JoinedCond
import Derived.Deep.Fields
import Derived.Test.YthgoffbfgdgkpaaGb4
namespace Go.Proofs.Ythgoffbfgdgkpaa
open Go.RowKit
set_option linter.unusedVariables false
set_option linter.unusedSimpArgs false
set_option linter.unusedSimpArgs false
set_option maxHeartbeats 4000000
set_option maxRecDepth 100000

theorem rbicmp_4 (p : Pkt) (A1 : Option Addr) (n1 c1 : Nat) (A2 : Option Addr) (n2 c2 : Nat) (m : Msg) (B1 : Option Addr) (m1 d1 : Nat) (w : World) (k1 : Bs w A1 n1 c1 p.opt) (j1 : Bs w B1 m1 d1 m.dat)
    (h : 40 < (n1 : Int) ∨ n1 % 4 ≠ 0) :
    Calls Try.prog 21 #[(.agg #[.int .u8 (p).tos, .int .u16 (p).id, .bool (p).keep, .int .u8 (p).ttl, .int .u8 (p).proto, .int .u32 (p).src, .int .u32 (p).dst, .slice A1 n1 c1, .slice A2 n2 c2]), (.agg #[.int .u8 (m).ty, .int .u8 (m).code, .int .u32 (m).rest, .slice B1 m1 d1])] w (WiPost w zP 4) := by
  have hw0 : ∀ W, Bs W A1 n1 c1 p.opt → Calls Try.prog 37 #[(.agg #[.int .u8 (p).tos, .int .u16 (p).id, .bool (p).keep, .int .u8 (p).ttl, .int .u8 (p).proto, .int .u32 (p).src, .int .u32 (p).dst, .slice A1 n1 c1, .slice A2 n2 c2]), .int .u8 1, .slice none 0 0] W (fun e w' => ∃ C1 e1 f1 C2 e2 f2, e = .returned (.tuple #[.agg #[.int .u8 0, .int .u16 0, .bool false, .int .u8 0, .int .u8 0, .int .u32 0, .int .u32 0, .slice C1 e1 f1, .slice C2 e2 f2], .int .i64 4]) ∧ Own w' W.heap.size 5 C1 e1 f1 [] ∧ Own w' W.heap.size 5 C2 e2 f2 [] ∧ Below W.heap.size W w') := fun W kk => by
    have hh := rwith_any p A1 n1 c1 A2 n2 c2 1 none 0 0 [] W kk (Bs.none_ W)
    unfold withP at hh
    rw [wiE_4 k1.len h, if_neg (by decide)] at hh
    exact hh.mono fun e w' hq => hq.out
  have b1 := j1.max
  obtain ⟨k, hk⟩ : ∃ k : Nat, w.heap.size = k := ⟨_, rfl⟩
  obtain ⟨w1, hw1⟩ : ∃ w1, ((w.alloc (.cells #[.int .u8 (p).tos, .int .u16 (p).id, .bool (p).keep, .int .u8 (p).ttl, .int .u8 (p).proto, .int .u32 (p).src, .int .u32 (p).dst, .slice A1 n1 c1, .slice A2 n2 c2] 26)).alloc (.cells #[.int .u8 (m).ty, .int .u8 (m).code, .int .u32 (m).rest, .slice B1 m1 d1] 49)).alloc (.cells #[.int .u8 0, .int .u16 0, .bool false, .int .u8 0, .int .u8 0, .int .u32 0, .int .u32 0, .slice none 0 0, .slice none 0 0] 26) = w1 := ⟨_, rfl⟩
  have P1 : Blk w1 k #[.int .u8 (p).tos, .int .u16 (p).id, .bool (p).keep, .int .u8 (p).ttl, .int .u8 (p).proto, .int .u32 (p).src, .int .u32 (p).dst, .slice A1 n1 c1, .slice A2 n2 c2] 26 := by rw [← hw1]; exact ((blk_new w _ _ k hk).alloc _).alloc _
  have M1 : Blk w1 (k + 1) #[.int .u8 (m).ty, .int .u8 (m).code, .int .u32 (m).rest, .slice B1 m1 d1] 49 := by rw [← hw1]; exact (blk_new _ _ _ (k + 1) (by simp [hk])).alloc _
  have Z1 : Blk w1 (k + 1 + 1) #[.int .u8 0, .int .u16 0, .bool false, .int .u8 0, .int .u8 0, .int .u32 0, .int .u32 0, .slice none 0 0, .slice none 0 0] 26 := by rw [← hw1]; exact blk_new _ _ _ (k + 1 + 1) (by simp [hk])
  have R1 : Below w.heap.size w w1 := by rw [← hw1]; (repeat (first | with_reducible exact Below.refl _ _ | with_reducible refine below_drew ?_ | with_reducible refine below_drewN ?_ _ | with_reducible refine below_alloc ?_ (Nat.le_refl _) _ | with_reducible refine Below.setCell ?_ (by first | exact Nat.le_refl _ | (simp only []; omega)) _ | with_reducible assumption))
  have x1 := k1.below R1
  have y1 := j1.below R1
  have pc := P1.cell
  have mc := M1.cell
  have kl1 := P1.lt
  have ml1 := M1.lt
  go_enter Try.func21, Try.ntmps21
  go_wp2_with (go_at_call 37; ((with_reducible refine (hw0 w1 x1).mono ?_); rintro e w4 ⟨C1, e1, f1, C2, e2, f2, rfl, O1, O2, hB4⟩); (obtain ⟨w5, hw5⟩ : ∃ w5, w4.alloc (.cells #[.int .u8 0, .int .u16 0, .bool false, .int .u8 0, .int .u8 0, .int .u32 0, .int .u32 0, .slice C1 e1 f1, .slice C2 e2 f2] 26) = w5 := ⟨_, rfl⟩); have V5 : Below w4.heap.size w4 w5 := (by rw [← hw5]; (repeat (first | with_reducible exact Below.refl _ _ | with_reducible refine below_drew ?_ | with_reducible refine below_drewN ?_ _ | with_reducible refine below_alloc ?_ (Nat.le_refl _) _ | with_reducible refine Below.setCell ?_ (by first | exact Nat.le_refl _ | (simp only []; omega)) _ | with_reducible assumption))); have T5 := below_then hB4 V5; have P5 := P1.below T5; have M5 := M1.below T5; have Z5 := Z1.below T5; have pc5 := P5.cell; have mc5 := M5.cell; have zc5 := Z5.cell; have kl5 := P5.lt; have ml5 := M5.lt)
  obtain ⟨wf, hwf, Sf⟩ := store9 Z5 (.int .u8 0) (.int .u16 0) (.bool false) (.int .u8 0) (.int .u8 0) (.int .u32 0) (.int .u32 0) (.slice none 0 0) (.slice none 0 0)
  rw [hwf]
  have pf := Sf.blk.cell
  exact bodyPost_ret (by simp [results, Try.results21, go_sem, pf]) rfl (wiPost_no (Sf.bel (below_then R1 T5) (by omega)))
theorem rbicmp_8 (p : Pkt) (A1 : Option Addr) (n1 c1 : Nat) (A2 : Option Addr) (n2 c2 : Nat) (m : Msg) (B1 : Option Addr) (m1 d1 : Nat) (w : World) (k1 : Bs w A1 n1 c1 p.opt) (j1 : Bs w B1 m1 d1 m.dat)
    (h1 : (n1 : Int) ≤ 40) (h2 : n1 % 4 = 0) (h3 : 65535 < 28 + (n1 : Int) + m1) :
    Calls Try.prog 21 #[(.agg #[.int .u8 (p).tos, .int .u16 (p).id, .bool (p).keep, .int .u8 (p).ttl, .int .u8 (p).proto, .int .u32 (p).src, .int .u32 (p).dst, .slice A1 n1 c1, .slice A2 n2 c2]), (.agg #[.int .u8 (m).ty, .int .u8 (m).code, .int .u32 (m).rest, .slice B1 m1 d1])] w (WiPost w zP 8) := by
  have hw0 : ∀ W, Bs W A1 n1 c1 p.opt → Calls Try.prog 37 #[(.agg #[.int .u8 (p).tos, .int .u16 (p).id, .bool (p).keep, .int .u8 (p).ttl, .int .u8 (p).proto, .int .u32 (p).src, .int .u32 (p).dst, .slice A1 n1 c1, .slice A2 n2 c2]), .int .u8 1, .slice none 0 0] W (fun e w' => ∃ C1 e1 f1 C2 e2 f2, e = .returned (.tuple #[.agg #[.int .u8 p.tos, .int .u16 p.id, .bool p.keep, .int .u8 p.ttl, .int .u8 1, .int .u32 p.src, .int .u32 p.dst, .slice C1 e1 f1, .slice C2 e2 f2], .int .i64 0]) ∧ Own w' W.heap.size 5 C1 e1 f1 p.opt ∧ Own w' W.heap.size 5 C2 e2 f2 [] ∧ Below W.heap.size W w') := fun W kk => by
    have hh := rwith_any p A1 n1 c1 A2 n2 c2 1 none 0 0 [] W kk (Bs.none_ W)
    unfold withP at hh
    rw [show ([] : List UInt8).length = 0 from rfl, wiE_0 k1.len h1 h2 (by omega), if_pos rfl] at hh
    exact hh.mono fun e w' hq => hq.out
  have b1 := j1.max
  obtain ⟨k, hk⟩ : ∃ k : Nat, w.heap.size = k := ⟨_, rfl⟩
  obtain ⟨w1, hw1⟩ : ∃ w1, ((w.alloc (.cells #[.int .u8 (p).tos, .int .u16 (p).id, .bool (p).keep, .int .u8 (p).ttl, .int .u8 (p).proto, .int .u32 (p).src, .int .u32 (p).dst, .slice A1 n1 c1, .slice A2 n2 c2] 26)).alloc (.cells #[.int .u8 (m).ty, .int .u8 (m).code, .int .u32 (m).rest, .slice B1 m1 d1] 49)).alloc (.cells #[.int .u8 0, .int .u16 0, .bool false, .int .u8 0, .int .u8 0, .int .u32 0, .int .u32 0, .slice none 0 0, .slice none 0 0] 26) = w1 := ⟨_, rfl⟩
  have P1 : Blk w1 k #[.int .u8 (p).tos, .int .u16 (p).id, .bool (p).keep, .int .u8 (p).ttl, .int .u8 (p).proto, .int .u32 (p).src, .int .u32 (p).dst, .slice A1 n1 c1, .slice A2 n2 c2] 26 := by rw [← hw1]; exact ((blk_new w _ _ k hk).alloc _).alloc _
  have M1 : Blk w1 (k + 1) #[.int .u8 (m).ty, .int .u8 (m).code, .int .u32 (m).rest, .slice B1 m1 d1] 49 := by rw [← hw1]; exact (blk_new _ _ _ (k + 1) (by simp [hk])).alloc _
  have Z1 : Blk w1 (k + 1 + 1) #[.int .u8 0, .int .u16 0, .bool false, .int .u8 0, .int .u8 0, .int .u32 0, .int .u32 0, .slice none 0 0, .slice none 0 0] 26 := by rw [← hw1]; exact blk_new _ _ _ (k + 1 + 1) (by simp [hk])
  have R1 : Below w.heap.size w w1 := by rw [← hw1]; (repeat (first | with_reducible exact Below.refl _ _ | with_reducible refine below_drew ?_ | with_reducible refine below_drewN ?_ _ | with_reducible refine below_alloc ?_ (Nat.le_refl _) _ | with_reducible refine Below.setCell ?_ (by first | exact Nat.le_refl _ | (simp only []; omega)) _ | with_reducible assumption))
  have x1 := k1.below R1
  have y1 := j1.below R1
  have pc := P1.cell
  have mc := M1.cell
  have kl1 := P1.lt
  have ml1 := M1.lt
  go_enter Try.func21, Try.ntmps21
  go_wp2_with (go_at_call 37; ((with_reducible refine (hw0 w1 x1).mono ?_); rintro e w4 ⟨C1, e1, f1, C2, e2, f2, rfl, O1, O2, hB4⟩); (obtain ⟨w5, hw5⟩ : ∃ w5, w4.alloc (.cells #[.int .u8 p.tos, .int .u16 p.id, .bool p.keep, .int .u8 p.ttl, .int .u8 1, .int .u32 p.src, .int .u32 p.dst, .slice C1 e1 f1, .slice C2 e2 f2] 26) = w5 := ⟨_, rfl⟩); have V5 : Below w4.heap.size w4 w5 := (by rw [← hw5]; (repeat (first | with_reducible exact Below.refl _ _ | with_reducible refine below_drew ?_ | with_reducible refine below_drewN ?_ _ | with_reducible refine below_alloc ?_ (Nat.le_refl _) _ | with_reducible refine Below.setCell ?_ (by first | exact Nat.le_refl _ | (simp only []; omega)) _ | with_reducible assumption))); have T5 := below_then hB4 V5; have P5 := P1.below T5; have M5 := M1.below T5; have Z5 := Z1.below T5; have pc5 := P5.cell; have mc5 := M5.cell; have zc5 := Z5.cell; have kl5 := P5.lt; have ml5 := M5.lt)
  obtain ⟨wf, hwf, Sf⟩ := store9 Z5 (.int .u8 0) (.int .u16 0) (.bool false) (.int .u8 0) (.int .u8 0) (.int .u32 0) (.int .u32 0) (.slice none 0 0) (.slice none 0 0)
  rw [hwf]
  have pf := Sf.blk.cell
  exact bodyPost_ret (by simp [results, Try.results21, go_sem, pf]) rfl (wiPost_no (Sf.bel (below_then R1 T5) (by omega)))
theorem rbicmp_0 (p : Pkt) (A1 : Option Addr) (n1 c1 : Nat) (A2 : Option Addr) (n2 c2 : Nat) (m : Msg) (hm : m.Ok) (B1 : Option Addr) (m1 d1 : Nat) (w : World) (k1 : Bs w A1 n1 c1 p.opt) (j1 : Bs w B1 m1 d1 m.dat)
    (h1 : (n1 : Int) ≤ 40) (h2 : n1 % 4 = 0) (h3 : 28 + (n1 : Int) + m1 ≤ 65535) :
    Calls Try.prog 21 #[(.agg #[.int .u8 (p).tos, .int .u16 (p).id, .bool (p).keep, .int .u8 (p).ttl, .int .u8 (p).proto, .int .u32 (p).src, .int .u32 (p).dst, .slice A1 n1 c1, .slice A2 n2 c2]), (.agg #[.int .u8 (m).ty, .int .u8 (m).code, .int .u32 (m).rest, .slice B1 m1 d1])] w (WiPost w { p with proto := 1, dat := mS m } 0) := by
  have hw0 : ∀ W, Bs W A1 n1 c1 p.opt → Calls Try.prog 37 #[(.agg #[.int .u8 (p).tos, .int .u16 (p).id, .bool (p).keep, .int .u8 (p).ttl, .int .u8 (p).proto, .int .u32 (p).src, .int .u32 (p).dst, .slice A1 n1 c1, .slice A2 n2 c2]), .int .u8 1, .slice none 0 0] W (fun e w' => ∃ C1 e1 f1 C2 e2 f2, e = .returned (.tuple #[.agg #[.int .u8 p.tos, .int .u16 p.id, .bool p.keep, .int .u8 p.ttl, .int .u8 1, .int .u32 p.src, .int .u32 p.dst, .slice C1 e1 f1, .slice C2 e2 f2], .int .i64 0]) ∧ Own w' W.heap.size 5 C1 e1 f1 p.opt ∧ Own w' W.heap.size 5 C2 e2 f2 [] ∧ Below W.heap.size W w') := fun W kk => by
    have hh := rwith_any p A1 n1 c1 A2 n2 c2 1 none 0 0 [] W kk (Bs.none_ W)
    unfold withP at hh
    rw [show ([] : List UInt8).length = 0 from rfl, wiE_0 k1.len h1 h2 (by omega), if_pos rfl] at hh
    exact hh.mono fun e w' hq => hq.out
  have hw1' : ∀ W A n c, Bs W A1 n1 c1 p.opt → Bs W A n c (mS m) → Calls Try.prog 37 #[(.agg #[.int .u8 (p).tos, .int .u16 (p).id, .bool (p).keep, .int .u8 (p).ttl, .int .u8 (p).proto, .int .u32 (p).src, .int .u32 (p).dst, .slice A1 n1 c1, .slice A2 n2 c2]), .int .u8 1, .slice A n c] W (fun e w' => ∃ C1 e1 f1 C2 e2 f2, e = .returned (.tuple #[.agg #[.int .u8 p.tos, .int .u16 p.id, .bool p.keep, .int .u8 p.ttl, .int .u8 1, .int .u32 p.src, .int .u32 p.dst, .slice C1 e1 f1, .slice C2 e2 f2], .int .i64 0]) ∧ Own w' W.heap.size 5 C1 e1 f1 p.opt ∧ Own w' W.heap.size 5 C2 e2 f2 (mS m) ∧ Below W.heap.size W w') := fun W A n c kk ks => by
    have hh := rwith_any p A1 n1 c1 A2 n2 c2 1 A n c (mS m) W kk ks
    unfold withP at hh
    rw [mS_len, j1.len, wiE_0 k1.len h1 h2 (by omega), if_pos rfl] at hh
    exact hh.mono fun e w' hq => hq.out
  have b1 := j1.max
  have jl := j1.len
  obtain ⟨⟨t0, t1⟩, ⟨u0, u1⟩, ⟨r0, r1⟩⟩ := hm
  have L4 := fun W => lit4 (e := 5) (x := m.ty) (y := m.code) (z := 0) (u := 0) t0 t1 u0 u1 (by omega) (by omega) (by omega) (by omega) W
  have HM : Hid ([ub m.ty, ub m.code, ub 0, ub 0] ++ four m.rest ++ m.dat = mL m) := rfl
  have HS : Hid (put16 (mL m) 2 (csum (mL m)) = mS m) := rfl
  have HL : Hid ((mL m).length = 8 + m1) := by unfold Hid; rw [mL_len, jl]
  clear jl
  obtain ⟨k, hk⟩ : ∃ k : Nat, w.heap.size = k := ⟨_, rfl⟩
  obtain ⟨w1, hw1⟩ : ∃ w1, ((w.alloc (.cells #[.int .u8 (p).tos, .int .u16 (p).id, .bool (p).keep, .int .u8 (p).ttl, .int .u8 (p).proto, .int .u32 (p).src, .int .u32 (p).dst, .slice A1 n1 c1, .slice A2 n2 c2] 26)).alloc (.cells #[.int .u8 (m).ty, .int .u8 (m).code, .int .u32 (m).rest, .slice B1 m1 d1] 49)).alloc (.cells #[.int .u8 0, .int .u16 0, .bool false, .int .u8 0, .int .u8 0, .int .u32 0, .int .u32 0, .slice none 0 0, .slice none 0 0] 26) = w1 := ⟨_, rfl⟩
  have P1 : Blk w1 k #[.int .u8 (p).tos, .int .u16 (p).id, .bool (p).keep, .int .u8 (p).ttl, .int .u8 (p).proto, .int .u32 (p).src, .int .u32 (p).dst, .slice A1 n1 c1, .slice A2 n2 c2] 26 := by rw [← hw1]; exact ((blk_new w _ _ k hk).alloc _).alloc _
  have M1 : Blk w1 (k + 1) #[.int .u8 (m).ty, .int .u8 (m).code, .int .u32 (m).rest, .slice B1 m1 d1] 49 := by rw [← hw1]; exact (blk_new _ _ _ (k + 1) (by simp [hk])).alloc _
  have Z1 : Blk w1 (k + 1 + 1) #[.int .u8 0, .int .u16 0, .bool false, .int .u8 0, .int .u8 0, .int .u32 0, .int .u32 0, .slice none 0 0, .slice none 0 0] 26 := by rw [← hw1]; exact blk_new _ _ _ (k + 1 + 1) (by simp [hk])
  have R1 : Below w.heap.size w w1 := by rw [← hw1]; (repeat (first | with_reducible exact Below.refl _ _ | with_reducible refine below_drew ?_ | with_reducible refine below_drewN ?_ _ | with_reducible refine below_alloc ?_ (Nat.le_refl _) _ | with_reducible refine Below.setCell ?_ (by first | exact Nat.le_refl _ | (simp only []; omega)) _ | with_reducible assumption))
  have x1 := k1.below R1
  have y1 := j1.below R1
  have pc := P1.cell
  have mc := M1.cell
  have kl1 := P1.lt
  have ml1 := M1.lt
  go_enter Try.func21, Try.ntmps21
  go_wp2_with (go_at_call 37; ((with_reducible refine (hw0 w1 x1).mono ?_); rintro e w4 ⟨C1, e1, f1, C2, e2, f2, rfl, O1, O2, hB4⟩); (obtain ⟨w5, hw5⟩ : ∃ w5, w4.alloc (.cells #[.int .u8 p.tos, .int .u16 p.id, .bool p.keep, .int .u8 p.ttl, .int .u8 1, .int .u32 p.src, .int .u32 p.dst, .slice C1 e1 f1, .slice C2 e2 f2] 26) = w5 := ⟨_, rfl⟩); have V5 : Below w4.heap.size w4 w5 := (by rw [← hw5]; (repeat (first | with_reducible exact Below.refl _ _ | with_reducible refine below_drew ?_ | with_reducible refine below_drewN ?_ _ | with_reducible refine below_alloc ?_ (Nat.le_refl _) _ | with_reducible refine Below.setCell ?_ (by first | exact Nat.le_refl _ | (simp only []; omega)) _ | with_reducible assumption))); have T5 := below_then hB4 V5; have P5 := P1.below T5; have M5 := M1.below T5; have Z5 := Z1.below T5; have pc5 := P5.cell; have mc5 := M5.cell; have zc5 := Z5.cell; have kl5 := P5.lt; have ml5 := M5.lt)
  obtain ⟨w6, hw6⟩ : ∃ w6, w5.alloc (.cells #[.int .u8 m.ty, .int .u8 m.code, .int .u8 0, .int .u8 0] 5) = w6 := ⟨_, rfl⟩
  have OL := L4 w5
  have V6 : Below w5.heap.size w5 w6 := by rw [← hw6]; (repeat (first | with_reducible exact Below.refl _ _ | with_reducible refine below_drew ?_ | with_reducible refine below_drewN ?_ _ | with_reducible refine below_alloc ?_ (Nat.le_refl _) _ | with_reducible refine Below.setCell ?_ (by first | exact Nat.le_refl _ | (simp only []; omega)) _ | with_reducible assumption))
  rw [hw6] at OL ⊢
  have M6 := M5.below V6
  have P6 := P5.below V6
  have Z6 := Z5.below V6
  have T6 := below_then T5 V6
  have y6 := y1.below T6
  have v6s := V6.size
  clear hw6 hw5 pc5 mc5 zc5 pc mc
  refine region_txt 7 (by kernel_rfl) (by kernel_rfl) ?_; (iterate 7 (first | (apply ObsK.skip (by rfl)) | (apply ObsK.v (by rfl); (intro wo hT; (repeat (first | (intro v hv; (fail)) | (intro _ _ k; try have hcv := cv k))); (have mc := (M6.below hT).cell; have hsz : w5.heap.size ≤ wo.heap.size := Nat.le_trans v6s hT.size); refine Goes.mk ?_; first | (exact goes_app _ _ rfl rfl (OL.below hT) rfl (by assumption) (by omega) hsz) | (go_simp; first | exact goes_v | exact goes_b (by assumption) | fail | (refine goes_enter ?_; first | (go_at_call 34; ((with_reducible refine (four_any m.rest r0 r1 wo).mono ?_); rintro e w9 ⟨A9, c9, rfl, ho9, hB9⟩); exact ret_b ho9.bs hB9))))) | (apply ObsK.b (by rfl); (intro wo hT; (repeat (first | (intro v hv; (fail)) | (intro _ _ k; try have hcv := cv k))); (have mc := (M6.below hT).cell; have hsz : w5.heap.size ≤ wo.heap.size := Nat.le_trans v6s hT.size); refine Goes.mk ?_; first | (exact goes_app _ _ rfl rfl (OL.below hT) rfl (by assumption) (by omega) hsz) | (go_simp; first | exact goes_v | exact goes_b (by assumption) | fail | (refine goes_enter ?_; first | (go_at_call 34; ((with_reducible refine (four_any m.rest r0 r1 wo).mono ?_); rintro e w9 ⟨A9, c9, rfl, ho9, hB9⟩); exact ret_b ho9.bs hB9))))) | (apply ObsK.p (q := isW w5.heap.size _) (by rfl) st_isW; (intro wo hT; (repeat (first | (intro v hv; (fail)) | (intro _ _ k; try have hcv := cv k))); (have mc := (M6.below hT).cell; have hsz : w5.heap.size ≤ wo.heap.size := Nat.le_trans v6s hT.size); refine Goes.mk ?_; first | (exact goes_app _ _ rfl rfl (OL.below hT) rfl (by assumption) (by omega) hsz) | (go_simp; first | exact goes_v | exact goes_b (by assumption) | fail | (refine goes_enter ?_; first | (go_at_call 34; ((with_reducible refine (four_any m.rest r0 r1 wo).mono ?_); rintro e w9 ⟨A9, c9, rfl, ho9, hB9⟩); exact ret_b ho9.bs hB9))))))); refine ObsK.nil ?_; intro wz hBz; simp only [finOn, List.drop_succ_cons, List.drop_zero, List.drop_nil]
  rintro v7 ⟨A7, n7, c7, rfl, O7⟩ A9 c9 k9
  go_simp
  have u7 : n7 = 8 := by rw [← O7.len]; rfl
  subst u7
  have y7 := y6.below hBz
  have V7 := below_then V6 hBz
  go_wp2_with (first
    | (at_builtin; refine wpList_append_bs (w0 := w5) _ rfl _ _ _ rfl w5.heap.size 5 Try.underlying24 info_u8 A7 8 c7 _ rfl O7 B1 m1 d1 m.dat rfl y7 V7 (by omega) (by first | exact Nat.le_refl _ | exact Below.size V7 | omega | (simp <;> omega)) ?_; intro A8 n8 c8 w8 ho8 hB8 _ hz8; rw [HM.out] at ho8))
  have T8 := below_then T5 hB8
  have P8 := P1.below T8
  have Z8 := Z1.below T8
  have x8 := x1.below T8
  have o8 := ho8.bs
  have l8 : n8 ≤ 65535 := by rw [← ho8.len, HL.out]; omega
  refine region_txt 8 (by kernel_rfl) (by kernel_rfl) ?_; (iterate 8 (first | (apply ObsK.skip (by rfl)) | (apply ObsK.v (by rfl); (intro wo hT; (repeat (first | (intro v hv; ((first | (obtain ⟨A11, n11, c11, rfl, o11⟩ := hv; have ob11 := o11.bs) | (obtain ⟨D1, g1, h1', D2, g2, h2', rfl, o13, o14⟩ := hv)))) | (intro _ _ k; try have hcv := cv k))); (have qc := (P8.below hT).cell; have bo := o8.below hT; have xo := x8.below hT; have hsz : w8.heap.size ≤ wo.heap.size := hT.size); refine Goes.mk ?_; go_simp; first | exact goes_v | exact goes_b (by assumption) | exact goes_pk (P := { p with proto := 1, dat := mS m }) (by assumption) (by assumption) | (refine goes_enter ?_; first | (go_at_call 40; ((with_reducible refine (rsum_any A8 n8 c8 (mL m) (by omega) wo bo).mono ?_); rintro e w9 ⟨rfl, hB9⟩); exact ret_v hB9) | (go_at_call 38; ((with_reducible refine (rput16_any A8 n8 c8 (mL m) 2 _ (csum_lo _) (csum_hi _) wo bo).mono ?_); rintro e w9 ⟨A9, c9, rfl, ho9, hB9⟩); rw [HS.out] at ho9; exact ret_p (own_isW ho9 hsz) hB9) | (go_at_call 37; ((with_reducible refine (hw1' wo A11 n11 c11 xo ob11).mono ?_); rintro e w12 ⟨D1, g1, h1', D2, g2, h2', rfl, O13, O14, hB12⟩); exact ret_tup (P := { p with proto := 1, dat := mS m }) (O13.mono hsz) (O14.mono hsz) hB12)))) | (apply ObsK.b (by rfl); (intro wo hT; (repeat (first | (intro v hv; ((first | (obtain ⟨A11, n11, c11, rfl, o11⟩ := hv; have ob11 := o11.bs) | (obtain ⟨D1, g1, h1', D2, g2, h2', rfl, o13, o14⟩ := hv)))) | (intro _ _ k; try have hcv := cv k))); (have qc := (P8.below hT).cell; have bo := o8.below hT; have xo := x8.below hT; have hsz : w8.heap.size ≤ wo.heap.size := hT.size); refine Goes.mk ?_; go_simp; first | exact goes_v | exact goes_b (by assumption) | exact goes_pk (P := { p with proto := 1, dat := mS m }) (by assumption) (by assumption) | (refine goes_enter ?_; first | (go_at_call 40; ((with_reducible refine (rsum_any A8 n8 c8 (mL m) (by omega) wo bo).mono ?_); rintro e w9 ⟨rfl, hB9⟩); exact ret_v hB9) | (go_at_call 38; ((with_reducible refine (rput16_any A8 n8 c8 (mL m) 2 _ (csum_lo _) (csum_hi _) wo bo).mono ?_); rintro e w9 ⟨A9, c9, rfl, ho9, hB9⟩); rw [HS.out] at ho9; exact ret_p (own_isW ho9 hsz) hB9) | (go_at_call 37; ((with_reducible refine (hw1' wo A11 n11 c11 xo ob11).mono ?_); rintro e w12 ⟨D1, g1, h1', D2, g2, h2', rfl, O13, O14, hB12⟩); exact ret_tup (P := { p with proto := 1, dat := mS m }) (O13.mono hsz) (O14.mono hsz) hB12)))) | (apply ObsK.p (q := isW w8.heap.size _) (by rfl) st_isW; (intro wo hT; (repeat (first | (intro v hv; ((first | (obtain ⟨A11, n11, c11, rfl, o11⟩ := hv; have ob11 := o11.bs) | (obtain ⟨D1, g1, h1', D2, g2, h2', rfl, o13, o14⟩ := hv)))) | (intro _ _ k; try have hcv := cv k))); (have qc := (P8.below hT).cell; have bo := o8.below hT; have xo := x8.below hT; have hsz : w8.heap.size ≤ wo.heap.size := hT.size); refine Goes.mk ?_; go_simp; first | exact goes_v | exact goes_b (by assumption) | exact goes_pk (P := { p with proto := 1, dat := mS m }) (by assumption) (by assumption) | (refine goes_enter ?_; first | (go_at_call 40; ((with_reducible refine (rsum_any A8 n8 c8 (mL m) (by omega) wo bo).mono ?_); rintro e w9 ⟨rfl, hB9⟩); exact ret_v hB9) | (go_at_call 38; ((with_reducible refine (rput16_any A8 n8 c8 (mL m) 2 _ (csum_lo _) (csum_hi _) wo bo).mono ?_); rintro e w9 ⟨A9, c9, rfl, ho9, hB9⟩); rw [HS.out] at ho9; exact ret_p (own_isW ho9 hsz) hB9) | (go_at_call 37; ((with_reducible refine (hw1' wo A11 n11 c11 xo ob11).mono ?_); rintro e w12 ⟨D1, g1, h1', D2, g2, h2', rfl, O13, O14, hB12⟩); exact ret_tup (P := { p with proto := 1, dat := mS m }) (O13.mono hsz) (O14.mono hsz) hB12)))) | (apply ObsK.p (q := isTup w8.heap.size { p with proto := 1, dat := mS m } 0) (by rfl) st_isTup; (intro wo hT; (repeat (first | (intro v hv; ((first | (obtain ⟨A11, n11, c11, rfl, o11⟩ := hv; have ob11 := o11.bs) | (obtain ⟨D1, g1, h1', D2, g2, h2', rfl, o13, o14⟩ := hv)))) | (intro _ _ k; try have hcv := cv k))); (have qc := (P8.below hT).cell; have bo := o8.below hT; have xo := x8.below hT; have hsz : w8.heap.size ≤ wo.heap.size := hT.size); refine Goes.mk ?_; go_simp; first | exact goes_v | exact goes_b (by assumption) | exact goes_pk (P := { p with proto := 1, dat := mS m }) (by assumption) (by assumption) | (refine goes_enter ?_; first | (go_at_call 40; ((with_reducible refine (rsum_any A8 n8 c8 (mL m) (by omega) wo bo).mono ?_); rintro e w9 ⟨rfl, hB9⟩); exact ret_v hB9) | (go_at_call 38; ((with_reducible refine (rput16_any A8 n8 c8 (mL m) 2 _ (csum_lo _) (csum_hi _) wo bo).mono ?_); rintro e w9 ⟨A9, c9, rfl, ho9, hB9⟩); rw [HS.out] at ho9; exact ret_p (own_isW ho9 hsz) hB9) | (go_at_call 37; ((with_reducible refine (hw1' wo A11 n11 c11 xo ob11).mono ?_); rintro e w12 ⟨D1, g1, h1', D2, g2, h2', rfl, O13, O14, hB12⟩); exact ret_tup (P := { p with proto := 1, dat := mS m }) (O13.mono hsz) (O14.mono hsz) hB12)))) | (apply ObsK.p (q := isPk w8.heap.size { p with proto := 1, dat := mS m }) (by rfl) st_isPk; (intro wo hT; (repeat (first | (intro v hv; ((first | (obtain ⟨A11, n11, c11, rfl, o11⟩ := hv; have ob11 := o11.bs) | (obtain ⟨D1, g1, h1', D2, g2, h2', rfl, o13, o14⟩ := hv)))) | (intro _ _ k; try have hcv := cv k))); (have qc := (P8.below hT).cell; have bo := o8.below hT; have xo := x8.below hT; have hsz : w8.heap.size ≤ wo.heap.size := hT.size); refine Goes.mk ?_; go_simp; first | exact goes_v | exact goes_b (by assumption) | exact goes_pk (P := { p with proto := 1, dat := mS m }) (by assumption) (by assumption) | (refine goes_enter ?_; first | (go_at_call 40; ((with_reducible refine (rsum_any A8 n8 c8 (mL m) (by omega) wo bo).mono ?_); rintro e w9 ⟨rfl, hB9⟩); exact ret_v hB9) | (go_at_call 38; ((with_reducible refine (rput16_any A8 n8 c8 (mL m) 2 _ (csum_lo _) (csum_hi _) wo bo).mono ?_); rintro e w9 ⟨A9, c9, rfl, ho9, hB9⟩); rw [HS.out] at ho9; exact ret_p (own_isW ho9 hsz) hB9) | (go_at_call 37; ((with_reducible refine (hw1' wo A11 n11 c11 xo ob11).mono ?_); rintro e w12 ⟨D1, g1, h1', D2, g2, h2', rfl, O13, O14, hB12⟩); exact ret_tup (P := { p with proto := 1, dat := mS m }) (O13.mono hsz) (O14.mono hsz) hB12)))))); refine ObsK.nil ?_; intro wz hBz; simp only [finOn, List.drop_succ_cons, List.drop_zero, List.drop_nil]
  rintro v12 ⟨D1, g1, h1', D2, g2, h2', rfl, O13, O14⟩ v13 hv13 v14 hv14
  clear hv13 hv14
  go_simp
  have T11 := below_then T8 hBz
  have Z12 := Z8.below hBz
  have zc12 := Z12.cell
  have zl8 := Z8.lt
  go_wp2_with fail
  obtain ⟨wf, hwf, Sf⟩ := store9 Z12 (.int .u8 p.tos) (.int .u16 p.id) (.bool p.keep) (.int .u8 p.ttl) (.int .u8 1) (.int .u32 p.src) (.int .u32 p.dst) (.slice D1 g1 h1') (.slice D2 g2 h2')
  rw [hwf]
  have pf := Sf.blk.cell
  have Of := Sf.own O13 (fun a e => by have := O13.ge a e; omega)
  have Df := Sf.own O14 (fun a e => by have := O14.ge a e; omega)
  have s11 := (below_then R1 T8).size
  refine bodyPost_ret (v := .tuple #[.agg #[.int .u8 p.tos, .int .u16 p.id, .bool p.keep, .int .u8 p.ttl, .int .u8 1, .int .u32 p.src, .int .u32 p.dst, .slice D1 g1 h1', .slice D2 g2 h2'], .int .i64 0]) (by simp [results, Try.results21, go_sem, pf]) rfl ⟨⟨D1, g1, h1', D2, g2, h2', rfl, Of.mono s11, Df.mono s11, Sf.bel (below_then R1 T11) (by omega)⟩⟩
theorem rbicmp_any (p : Pkt) (A1 : Option Addr) (n1 c1 : Nat) (A2 : Option Addr) (n2 c2 : Nat) (m : Msg) (hm : m.Ok) (B1 : Option Addr) (m1 d1 : Nat) (w : World) (k1 : Bs w A1 n1 c1 p.opt) (j1 : Bs w B1 m1 d1 m.dat) :
    Calls Try.prog 21 #[(.agg #[.int .u8 (p).tos, .int .u16 (p).id, .bool (p).keep, .int .u8 (p).ttl, .int .u8 (p).proto, .int .u32 (p).src, .int .u32 (p).dst, .slice A1 n1 c1, .slice A2 n2 c2]), (.agg #[.int .u8 (m).ty, .int .u8 (m).code, .int .u32 (m).rest, .slice B1 m1 d1])] w (WiPost w (withP p 1 (mS m)) (wiE p (8 + m.dat.length))) := by
  have l1 := k1.len
  unfold withP
  rw [mS_len, j1.len]
  by_cases h1 : (n1 : Int) ≤ 40
  · by_cases h2 : n1 % 4 = 0
    · by_cases h3 : 28 + (n1 : Int) + m1 ≤ 65535
      · rw [wiE_0 l1 h1 h2 (by omega), if_pos rfl]
        exact rbicmp_0 p A1 n1 c1 A2 n2 c2 m hm B1 m1 d1 w k1 j1 h1 h2 h3
      · rw [wiE_8 l1 h1 h2 (by omega), if_neg (by decide)]
        exact rbicmp_8 p A1 n1 c1 A2 n2 c2 m B1 m1 d1 w k1 j1 h1 h2 (by omega)
    · rw [wiE_4 l1 (.inr h2), if_neg (by decide)]
      exact rbicmp_4 p A1 n1 c1 A2 n2 c2 m B1 m1 d1 w k1 j1 (.inr h2)
  · rw [wiE_4 l1 (.inl (by omega)), if_neg (by decide)]
    exact rbicmp_4 p A1 n1 c1 A2 n2 c2 m B1 m1 d1 w k1 j1 (.inl (by omega))
end Go.Proofs.Ythgoffbfgdgkpaa

namespace Go.Proofs.Ythgoffbfgdgkpaa
open Go.RowKit
set_option linter.unusedVariables false
set_option linter.unusedSimpArgs false
set_option linter.unusedSimpArgs false
set_option maxHeartbeats 8000000
set_option maxRecDepth 100000

def isL3 : World → Value → Prop := fun W v => ∃ g, v = .slice (some ⟨g, 0, none⟩) 3 3 ∧ Blk W g #[.int .u8 3, .int .u8 11, .int .u8 12] 5
theorem st_isL3 : ∀ w w' v, isL3 w v → Below w.heap.size w w' → isL3 w' v := fun _ _ _ ⟨g, e, k⟩ hb => ⟨g, e, k.below hb⟩
theorem goes_l3 {W : World} : OpGoes Try.prog (fun v w' => (Kd.p isL3).holds w' v ∧ Below W.heap.size W w') (.ok (.value (.slice (some ⟨W.heap.size, 0, none⟩) 3 3)) (W.alloc (.cells #[.int .u8 3, .int .u8 11, .int .u8 12] 5))) :=
  ⟨⟨_, rfl, blk_new W _ _ _ rfl⟩, (Below.refl _ W).alloc (Nat.le_refl _) _⟩
def isP3 (r : Nat) (y : Value) : World → Value → Prop := fun W v => ∃ g cs, v = .pointer (some ⟨g, r, none⟩) ∧ Blk W g cs 5 ∧ cs[r]? = some y
theorem st_isP3 {r : Nat} {y : Value} : ∀ w w' v, isP3 r y w v → Below w.heap.size w w' → isP3 r y w' v := fun _ _ _ ⟨g, cs, e, k, h⟩ hb => ⟨g, cs, e, k.below hb, h⟩
theorem goes_p3 {W : World} {r g : Nat} {cs : Array Value} {y : Value} (k : Blk W g cs 5) (h : cs[r]? = some y) : OpGoes Try.prog (fun v w' => (Kd.p (isP3 r y)).holds w' v ∧ Below W.heap.size W w') (.ok (.value (.pointer (some ⟨g, r, none⟩))) W) :=
  ⟨⟨_, _, rfl, k, h⟩, Below.refl _ _⟩
theorem goes_tup5 {B : Nat} {P : Pkt} {E : Int} {C1 C2 : Option Addr} {e1 f1 e2 f2 : Nat} {w : World} (h1 : Own w B 5 C1 e1 f1 P.opt) (h2 : Own w B 5 C2 e2 f2 P.dat) :
    OpGoes Try.prog (fun v w' => (Kd.p (isTup B P E)).holds w' v ∧ Below w.heap.size w w') (.ok (.value (.tuple #[(.agg #[.int .u8 (P).tos, .int .u16 (P).id, .bool (P).keep, .int .u8 (P).ttl, .int .u8 (P).proto, .int .u32 (P).src, .int .u32 (P).dst, .slice C1 e1 f1, .slice C2 e2 f2]), .int .i64 E])) w) := ⟨⟨_, _, _, _, _, _, rfl, h1, h2⟩, Below.refl _ _⟩
theorem tupleErrors_bad (w : World) (p : Pkt) (hp : p.Ok) (A1 : Option Addr) (n1 c1 : Nat) (A2 : Option Addr) (n2 c2 : Nat) (k1 : Bs w A1 n1 c1 p.opt) (k2 : Bs w A2 n2 c2 p.dat) (z2 : n2 ≤ 1048576) (q : Pkt) (B1 : Option Addr) (m1 d1 : Nat) (B2 : Option Addr) (m2 d2 : Nat) (n : Int)
    (hbad : ofE p ≠ 0 ∨ (ofE p = 0 ∧ bdE p ≠ 0) ∨ (ofE p = 0 ∧ bdE p = 0 ∧ 60000 < (bdL p).length) ∨ (ofE p = 0 ∧ bdE p = 0 ∧ ¬ 60000 < (bdL p).length ∧ 40 < m1) ∨ (ofE p = 0 ∧ bdE p = 0 ∧ ¬ 60000 < (bdL p).length ∧ ¬ 40 < m1 ∧ m1 % 4 ≠ 0)) :
    Calls Try.prog 9 #[(.agg #[.int .u8 (p).tos, .int .u16 (p).id, .bool (p).keep, .int .u8 (p).ttl, .int .u8 (p).proto, .int .u32 (p).src, .int .u32 (p).dst, .slice A1 n1 c1, .slice A2 n2 c2]), (.agg #[.int .u8 (q).tos, .int .u16 (q).id, .bool (q).keep, .int .u8 (q).ttl, .int .u8 (q).proto, .int .u32 (q).src, .int .u32 (q).dst, .slice B1 m1 d1, .slice B2 m2 d2]), .int .u16 n] w fun e w' => e = .returned (.bool true) ∧ Below w.heap.size w w' := by
  have hr := fun W k => rof_any p hp A1 n1 c1 A2 n2 c2 W k (by omega)
  have cb := fun W k1 k2 => rbd_any p hp A1 n1 c1 A2 n2 c2 W k1 k2
  obtain ⟨U, hU⟩ : ∃ q, ofT p = q := ⟨_, rfl⟩
  obtain ⟨E, hE⟩ : ∃ q, ofE p = q := ⟨_, rfl⟩
  obtain ⟨F, hF⟩ : ∃ q, bdE p = q := ⟨_, rfl⟩
  obtain ⟨L, hL⟩ : ∃ q, bdL p = q := ⟨_, rfl⟩
  obtain ⟨N, hN⟩ : ∃ q, L.length = q := ⟨_, rfl⟩
  rw [hU, hE] at hr
  rw [hF, hL] at cb
  rw [hE, hF, hL, hN] at hbad
  have HN := Lib.hid hN
  clear hU hE hF hL hN hp
  obtain ⟨k, hk⟩ : ∃ k : Nat, w.heap.size = k := ⟨_, rfl⟩
  obtain ⟨w1, hw1⟩ : ∃ W, ((w.alloc (.cells #[.int .u8 (p).tos, .int .u16 (p).id, .bool (p).keep, .int .u8 (p).ttl, .int .u8 (p).proto, .int .u32 (p).src, .int .u32 (p).dst, .slice A1 n1 c1, .slice A2 n2 c2] 26)).alloc (.cells #[.int .u8 (q).tos, .int .u16 (q).id, .bool (q).keep, .int .u8 (q).ttl, .int .u8 (q).proto, .int .u32 (q).src, .int .u32 (q).dst, .slice B1 m1 d1, .slice B2 m2 d2] 26)) = W := ⟨_, rfl⟩
  have P1 : Blk w1 k #[.int .u8 (p).tos, .int .u16 (p).id, .bool (p).keep, .int .u8 (p).ttl, .int .u8 (p).proto, .int .u32 (p).src, .int .u32 (p).dst, .slice A1 n1 c1, .slice A2 n2 c2] 26 := by rw [← hw1]; exact ((blk_new _ _ _ k (by simp [hk])).alloc _)
  have O1 : Blk w1 (k + 1) #[.int .u8 (q).tos, .int .u16 (q).id, .bool (q).keep, .int .u8 (q).ttl, .int .u8 (q).proto, .int .u32 (q).src, .int .u32 (q).dst, .slice B1 m1 d1, .slice B2 m2 d2] 26 := by rw [← hw1]; exact (blk_new _ _ _ (k + 1) (by simp [hk]))
  have R1 : Below w.heap.size w w1 := by rw [← hw1]; (repeat (first | with_reducible exact Below.refl _ _ | with_reducible refine below_drew ?_ | with_reducible refine below_drewN ?_ _ | with_reducible refine below_alloc ?_ (Nat.le_refl _) _ | with_reducible refine Below.setCell ?_ (by first | exact Nat.le_refl _ | (simp only []; omega)) _ | with_reducible assumption))
  have Pc1 := P1.cell
  have Oc1 := O1.cell
  have Pl1 := P1.lt
  have Ol1 := O1.lt
  have x1 := (k1).below R1
  have y1 := (k2).below R1
  rcases hbad with h | ⟨rfl, h⟩ | ⟨rfl, rfl, h⟩ | ⟨rfl, rfl, h', h⟩ | ⟨rfl, rfl, h', h'', h⟩
  · have h0 : (E != 0) = true := by simpa using h
    clear h
    go_enter Try.func9, Try.ntmps9
    go_wp2_with (first
      | (go_at_call 11; ((with_reducible refine (hr w1 y1).mono ?_); rintro e u2 ⟨⟨rfl, hB2⟩⟩); (obtain ⟨w2, hw2⟩ : ∃ W, u2.alloc (.cells #[.int .u8 (U).proto, .int .u32 (U).src, .int .u32 (U).dst, .int .u16 (U).sp, .int .u16 (U).dp] 28) = W := ⟨_, rfl⟩); have V2 : Below u2.heap.size u2 w2 := (by rw [← hw2]; (repeat (first | with_reducible exact Below.refl _ _ | with_reducible refine below_drew ?_ | with_reducible refine below_drewN ?_ _ | with_reducible refine below_alloc ?_ (Nat.le_refl _) _ | with_reducible refine Below.setCell ?_ (by first | exact Nat.le_refl _ | (simp only []; omega)) _ | with_reducible assumption))); (obtain ⟨kG2, hkG2⟩ : ∃ k : Nat, u2.heap.size = k := ⟨_, rfl⟩); have G2 : Blk w2 kG2 #[.int .u8 (U).proto, .int .u32 (U).src, .int .u32 (U).dst, .int .u16 (U).sp, .int .u16 (U).dp] 28 := (by rw [← hw2]; exact blk_new u2 _ _ _ hkG2); have Gc2 := G2.cell; have T2 := below_then hB2 V2; have P2 := P1.below T2; have Pc2 := P2.cell; clear Pc1; have O2 := O1.below T2; have Oc2 := O2.cell; clear Oc1; have x2 := x1.below T2; have y2 := y1.below T2; have R2 := below_then R1 T2)
      | (go_at_call 26; ((with_reducible refine (cb w2 x2 y2).mono ?_); rintro e w3 ⟨A3, n3, c3, rfl, ho3, hB3⟩); have u3 : n3 = N := (by rw [← ho3.len]; exact HN.out); subst u3; have P3 := P2.below hB3; have Pc3 := P3.cell; clear Pc2; have O3 := O2.below hB3; have Oc3 := O3.cell; clear Oc2; have G3 := G2.below hB3; have Gc3 := G3.cell; clear Gc2; have x3 := x2.below hB3; have y3 := y2.below hB3; have R3 := below_then R2 hB3)
      | (go_at_call 12; ((with_reducible refine (live05_any w3).mono ?_); rintro e w4 ⟨rfl, hB4⟩); have P4 := P3.below hB4; have Pc4 := P4.cell; clear Pc3; have O4 := O3.below hB4; have Oc4 := O4.cell; clear Oc3; have G4 := G3.below hB4; have Gc4 := G4.cell; clear Gc3; have x4 := x3.below hB4; have y4 := y3.below hB4; have R4 := below_then R3 hB4))
    go_ret
    exact ⟨rfl, R4⟩

  · have h0 : (F != 0) = true := by simpa using h
    clear h
    go_enter Try.func9, Try.ntmps9
    go_wp2_with (first
      | (go_at_call 11; ((with_reducible refine (hr w1 y1).mono ?_); rintro e u2 ⟨⟨rfl, hB2⟩⟩); (obtain ⟨w2, hw2⟩ : ∃ W, u2.alloc (.cells #[.int .u8 (U).proto, .int .u32 (U).src, .int .u32 (U).dst, .int .u16 (U).sp, .int .u16 (U).dp] 28) = W := ⟨_, rfl⟩); have V2 : Below u2.heap.size u2 w2 := (by rw [← hw2]; (repeat (first | with_reducible exact Below.refl _ _ | with_reducible refine below_drew ?_ | with_reducible refine below_drewN ?_ _ | with_reducible refine below_alloc ?_ (Nat.le_refl _) _ | with_reducible refine Below.setCell ?_ (by first | exact Nat.le_refl _ | (simp only []; omega)) _ | with_reducible assumption))); (obtain ⟨kG2, hkG2⟩ : ∃ k : Nat, u2.heap.size = k := ⟨_, rfl⟩); have G2 : Blk w2 kG2 #[.int .u8 (U).proto, .int .u32 (U).src, .int .u32 (U).dst, .int .u16 (U).sp, .int .u16 (U).dp] 28 := (by rw [← hw2]; exact blk_new u2 _ _ _ hkG2); have Gc2 := G2.cell; have T2 := below_then hB2 V2; have P2 := P1.below T2; have Pc2 := P2.cell; clear Pc1; have O2 := O1.below T2; have Oc2 := O2.cell; clear Oc1; have x2 := x1.below T2; have y2 := y1.below T2; have R2 := below_then R1 T2)
      | (go_at_call 26; ((with_reducible refine (cb w2 x2 y2).mono ?_); rintro e w3 ⟨A3, n3, c3, rfl, ho3, hB3⟩); have u3 : n3 = N := (by rw [← ho3.len]; exact HN.out); subst u3; have P3 := P2.below hB3; have Pc3 := P3.cell; clear Pc2; have O3 := O2.below hB3; have Oc3 := O3.cell; clear Oc2; have G3 := G2.below hB3; have Gc3 := G3.cell; clear Gc2; have x3 := x2.below hB3; have y3 := y2.below hB3; have R3 := below_then R2 hB3)
      | (go_at_call 12; ((with_reducible refine (live05_any w3).mono ?_); rintro e w4 ⟨rfl, hB4⟩); have P4 := P3.below hB4; have Pc4 := P4.cell; clear Pc3; have O4 := O3.below hB4; have Oc4 := O4.cell; clear Oc3; have G4 := G3.below hB4; have Gc4 := G4.cell; clear Gc3; have x4 := x3.below hB4; have y4 := y3.below hB4; have R4 := below_then R3 hB4))
    go_ret
    exact ⟨rfl, R4⟩

  · have h0 : (60000 : Int) < N := by omega
    clear h
    go_enter Try.func9, Try.ntmps9
    go_wp2_with (first
      | (go_at_call 11; ((with_reducible refine (hr w1 y1).mono ?_); rintro e u2 ⟨⟨rfl, hB2⟩⟩); (obtain ⟨w2, hw2⟩ : ∃ W, u2.alloc (.cells #[.int .u8 (U).proto, .int .u32 (U).src, .int .u32 (U).dst, .int .u16 (U).sp, .int .u16 (U).dp] 28) = W := ⟨_, rfl⟩); have V2 : Below u2.heap.size u2 w2 := (by rw [← hw2]; (repeat (first | with_reducible exact Below.refl _ _ | with_reducible refine below_drew ?_ | with_reducible refine below_drewN ?_ _ | with_reducible refine below_alloc ?_ (Nat.le_refl _) _ | with_reducible refine Below.setCell ?_ (by first | exact Nat.le_refl _ | (simp only []; omega)) _ | with_reducible assumption))); (obtain ⟨kG2, hkG2⟩ : ∃ k : Nat, u2.heap.size = k := ⟨_, rfl⟩); have G2 : Blk w2 kG2 #[.int .u8 (U).proto, .int .u32 (U).src, .int .u32 (U).dst, .int .u16 (U).sp, .int .u16 (U).dp] 28 := (by rw [← hw2]; exact blk_new u2 _ _ _ hkG2); have Gc2 := G2.cell; have T2 := below_then hB2 V2; have P2 := P1.below T2; have Pc2 := P2.cell; clear Pc1; have O2 := O1.below T2; have Oc2 := O2.cell; clear Oc1; have x2 := x1.below T2; have y2 := y1.below T2; have R2 := below_then R1 T2)
      | (go_at_call 26; ((with_reducible refine (cb w2 x2 y2).mono ?_); rintro e w3 ⟨A3, n3, c3, rfl, ho3, hB3⟩); have u3 : n3 = N := (by rw [← ho3.len]; exact HN.out); subst u3; have P3 := P2.below hB3; have Pc3 := P3.cell; clear Pc2; have O3 := O2.below hB3; have Oc3 := O3.cell; clear Oc2; have G3 := G2.below hB3; have Gc3 := G3.cell; clear Gc2; have x3 := x2.below hB3; have y3 := y2.below hB3; have R3 := below_then R2 hB3)
      | (go_at_call 12; ((with_reducible refine (live05_any w3).mono ?_); rintro e w4 ⟨rfl, hB4⟩); have P4 := P3.below hB4; have Pc4 := P4.cell; clear Pc3; have O4 := O3.below hB4; have Oc4 := O4.cell; clear Oc3; have G4 := G3.below hB4; have Gc4 := G4.cell; clear Gc3; have x4 := x3.below hB4; have y4 := y3.below hB4; have R4 := below_then R3 hB4))
    go_ret
    exact ⟨rfl, R4⟩

  · have h0 : ¬ (60000 : Int) < N := by omega
    have h1 : (40 : Int) < m1 := by omega
    clear h h'
    go_enter Try.func9, Try.ntmps9
    go_wp2_with (first
      | (go_at_call 11; ((with_reducible refine (hr w1 y1).mono ?_); rintro e u2 ⟨⟨rfl, hB2⟩⟩); (obtain ⟨w2, hw2⟩ : ∃ W, u2.alloc (.cells #[.int .u8 (U).proto, .int .u32 (U).src, .int .u32 (U).dst, .int .u16 (U).sp, .int .u16 (U).dp] 28) = W := ⟨_, rfl⟩); have V2 : Below u2.heap.size u2 w2 := (by rw [← hw2]; (repeat (first | with_reducible exact Below.refl _ _ | with_reducible refine below_drew ?_ | with_reducible refine below_drewN ?_ _ | with_reducible refine below_alloc ?_ (Nat.le_refl _) _ | with_reducible refine Below.setCell ?_ (by first | exact Nat.le_refl _ | (simp only []; omega)) _ | with_reducible assumption))); (obtain ⟨kG2, hkG2⟩ : ∃ k : Nat, u2.heap.size = k := ⟨_, rfl⟩); have G2 : Blk w2 kG2 #[.int .u8 (U).proto, .int .u32 (U).src, .int .u32 (U).dst, .int .u16 (U).sp, .int .u16 (U).dp] 28 := (by rw [← hw2]; exact blk_new u2 _ _ _ hkG2); have Gc2 := G2.cell; have T2 := below_then hB2 V2; have P2 := P1.below T2; have Pc2 := P2.cell; clear Pc1; have O2 := O1.below T2; have Oc2 := O2.cell; clear Oc1; have x2 := x1.below T2; have y2 := y1.below T2; have R2 := below_then R1 T2)
      | (go_at_call 26; ((with_reducible refine (cb w2 x2 y2).mono ?_); rintro e w3 ⟨A3, n3, c3, rfl, ho3, hB3⟩); have u3 : n3 = N := (by rw [← ho3.len]; exact HN.out); subst u3; have P3 := P2.below hB3; have Pc3 := P3.cell; clear Pc2; have O3 := O2.below hB3; have Oc3 := O3.cell; clear Oc2; have G3 := G2.below hB3; have Gc3 := G3.cell; clear Gc2; have x3 := x2.below hB3; have y3 := y2.below hB3; have R3 := below_then R2 hB3)
      | (go_at_call 12; ((with_reducible refine (live05_any w3).mono ?_); rintro e w4 ⟨rfl, hB4⟩); have P4 := P3.below hB4; have Pc4 := P4.cell; clear Pc3; have O4 := O3.below hB4; have Oc4 := O4.cell; clear Oc3; have G4 := G3.below hB4; have Gc4 := G4.cell; clear Gc3; have x4 := x3.below hB4; have y4 := y3.below hB4; have R4 := below_then R3 hB4))
    go_ret
    exact ⟨rfl, R4⟩

  · have h0 : ¬ (60000 : Int) < N := by omega
    have h1 : ¬ (40 : Int) < m1 := by omega
    have h2 := m4_yes h
    clear h h' h''
    go_enter Try.func9, Try.ntmps9
    go_wp2_with (first
      | (go_at_call 11; ((with_reducible refine (hr w1 y1).mono ?_); rintro e u2 ⟨⟨rfl, hB2⟩⟩); (obtain ⟨w2, hw2⟩ : ∃ W, u2.alloc (.cells #[.int .u8 (U).proto, .int .u32 (U).src, .int .u32 (U).dst, .int .u16 (U).sp, .int .u16 (U).dp] 28) = W := ⟨_, rfl⟩); have V2 : Below u2.heap.size u2 w2 := (by rw [← hw2]; (repeat (first | with_reducible exact Below.refl _ _ | with_reducible refine below_drew ?_ | with_reducible refine below_drewN ?_ _ | with_reducible refine below_alloc ?_ (Nat.le_refl _) _ | with_reducible refine Below.setCell ?_ (by first | exact Nat.le_refl _ | (simp only []; omega)) _ | with_reducible assumption))); (obtain ⟨kG2, hkG2⟩ : ∃ k : Nat, u2.heap.size = k := ⟨_, rfl⟩); have G2 : Blk w2 kG2 #[.int .u8 (U).proto, .int .u32 (U).src, .int .u32 (U).dst, .int .u16 (U).sp, .int .u16 (U).dp] 28 := (by rw [← hw2]; exact blk_new u2 _ _ _ hkG2); have Gc2 := G2.cell; have T2 := below_then hB2 V2; have P2 := P1.below T2; have Pc2 := P2.cell; clear Pc1; have O2 := O1.below T2; have Oc2 := O2.cell; clear Oc1; have x2 := x1.below T2; have y2 := y1.below T2; have R2 := below_then R1 T2)
      | (go_at_call 26; ((with_reducible refine (cb w2 x2 y2).mono ?_); rintro e w3 ⟨A3, n3, c3, rfl, ho3, hB3⟩); have u3 : n3 = N := (by rw [← ho3.len]; exact HN.out); subst u3; have P3 := P2.below hB3; have Pc3 := P3.cell; clear Pc2; have O3 := O2.below hB3; have Oc3 := O3.cell; clear Oc2; have G3 := G2.below hB3; have Gc3 := G3.cell; clear Gc2; have x3 := x2.below hB3; have y3 := y2.below hB3; have R3 := below_then R2 hB3)
      | (go_at_call 12; ((with_reducible refine (live05_any w3).mono ?_); rintro e w4 ⟨rfl, hB4⟩); have P4 := P3.below hB4; have Pc4 := P4.cell; clear Pc3; have O4 := O3.below hB4; have Oc4 := O4.cell; clear Oc3; have G4 := G3.below hB4; have Gc4 := G4.cell; clear Gc3; have x4 := x3.below hB4; have y4 := y3.below hB4; have R4 := below_then R3 hB4))
    go_ret
    exact ⟨rfl, R4⟩

theorem tupleErrors_good (w : World) (p : Pkt) (hp : p.Ok) (A1 : Option Addr) (n1 c1 : Nat) (A2 : Option Addr) (n2 c2 : Nat) (k1 : Bs w A1 n1 c1 p.opt) (k2 : Bs w A2 n2 c2 p.dat) (z2 : n2 ≤ 1048576) (q : Pkt) (hq : q.Ok) (B1 : Option Addr) (m1 d1 : Nat) (B2 : Option Addr) (m2 d2 : Nat) (j1 : Bs w B1 m1 d1 q.opt) (n : Int) (n0 : 0 ≤ n) (n1' : n ≤ 65535)
    (hE : ofE p = 0) (hF : bdE p = 0) (h60 : ¬ 60000 < (bdL p).length) (h40 : ¬ 40 < m1) (h4 : m1 % 4 = 0) (r : Nat) (y : Int) (hr3 : n % 3 = r) (hry : (r = 0 ∧ y = 3) ∨ (r = 1 ∧ y = 11) ∨ (r = 2 ∧ y = 12)) :
    Calls Try.prog 9 #[(.agg #[.int .u8 (p).tos, .int .u16 (p).id, .bool (p).keep, .int .u8 (p).ttl, .int .u8 (p).proto, .int .u32 (p).src, .int .u32 (p).dst, .slice A1 n1 c1, .slice A2 n2 c2]), (.agg #[.int .u8 (q).tos, .int .u16 (q).id, .bool (q).keep, .int .u8 (q).ttl, .int .u8 (q).proto, .int .u32 (q).src, .int .u32 (q).dst, .slice B1 m1 d1, .slice B2 m2 d2]), .int .u16 n] w fun e w' => e = .returned (.bool true) ∧ Below w.heap.size w w' := by
  have hr := fun W k => rof_any p hp A1 n1 c1 A2 n2 c2 W k (by omega)
  have cb := fun W k1 k2 => rbd_any p hp A1 n1 c1 A2 n2 c2 W k1 k2
  have h8 := (of_ways p hE).1
  have l1 := k1.len
  have l2 := k2.len
  have lq := j1.len
  have hbl := bdL_len hF
  obtain ⟨N, hN⟩ : ∃ q, (bdL p).length = q := ⟨_, rfl⟩
  rw [hN] at h60 hbl
  -- the numbers
  obtain ⟨hh, hhh⟩ : ∃ h : Int, 20 + (n1 : Int) = h := ⟨_, rfl⟩
  obtain ⟨h8', hh8⟩ : ∃ h' : Int, hh + 8 = h' := ⟨_, rfl⟩
  obtain ⟨dd, hdd⟩ : ∃ h' : Int, (N : Int) - hh = h' := ⟨_, rfl⟩
  obtain ⟨q7, hq7⟩ : ∃ h' : Int, dd - 7 = h' := ⟨_, rfl⟩
  obtain ⟨t, ht⟩ : ∃ h' : Int, n.tmod q7 = h' := ⟨_, rfl⟩
  have ht2 : 0 ≤ t ∧ t < q7 := by
    rw [← ht, Int.tmod_eq_emod_of_nonneg n0]
    exact ⟨Int.emod_nonneg _ (by omega), Int.emod_lt_of_pos _ (by omega)⟩
  obtain ⟨K, hK⟩ : ∃ K : Nat, h8' + t = (K : Int) := ⟨(h8' + t).toNat, by omega⟩
  obtain ⟨kk, hkk⟩ : ∃ kk : Nat, K = 20 + n1 + kk := ⟨K - (20 + n1), by omega⟩
  have hk8 : 8 ≤ kk ∧ kk ≤ n2 := by omega
  obtain ⟨M, hM⟩ : ∃ M, (bdL p).take K = M := ⟨_, rfl⟩
  have hMl : M.length = K := by rw [← hM, List.length_take, hN]; omega
  obtain ⟨c, hc⟩ : ∃ c, IntKind.u8.wrap n = c := ⟨_, rfl⟩
  have hcb : 0 ≤ c ∧ c ≤ 255 := by rw [← hc, IntKind.wrap_u8]; omega
  have hMok : (⟨y, c, 0, M⟩ : Msg).Ok := ⟨by show 0 ≤ y ∧ y ≤ 255; omega, by show 0 ≤ c ∧ c ≤ 255; omega, by show (0 : Int) ≤ 0 ∧ (0 : Int) ≤ 4294967295; decide⟩
  obtain ⟨t1, t2, t3, t4⟩ := err_told hp hE hF hk8.1 (by omega) q ⟨y, c, 0, M⟩ hMok (by show (y == 3 || y == 11 || y == 12) = true; rcases hry with ⟨-, rfl⟩ | ⟨-, rfl⟩ | ⟨-, rfl⟩ <;> rfl) (by show M = _; rw [← hM, hkk, l1])
  have hwi : wiE q (8 + M.length) = 0 := by unfold wiE; rw [if_neg (by omega), if_neg (by omega)]
  have hwP : withP q 1 (mS ⟨y, c, 0, M⟩) = { q with proto := 1, dat := mS ⟨y, c, 0, M⟩ } := by unfold withP; rw [mS_len, if_pos hwi]
  obtain ⟨Q, hQ⟩ : ∃ Q : Pkt, { q with proto := 1, dat := mS ⟨y, c, 0, M⟩ } = Q := ⟨_, rfl⟩
  have hQd : Q.dat.length ≤ 65535 := by rw [← hQ]; show (mS _).length ≤ _; rw [mS_len]; show 8 + M.length ≤ 65535; omega
  have hQp : Q.proto = 1 := by rw [← hQ]
  have hQo : Q.Ok := by rw [← hQ]; exact ⟨hq.1, hq.2, hq.3, (by show (0 : Int) ≤ 1 ∧ (1 : Int) ≤ 255; decide), hq.5, hq.6⟩
  rw [hQ] at hwP t1 t2 t3 t4
  have cm : ∀ W A c3, Bs W B1 m1 d1 q.opt → Bs W A K c3 M → Calls Try.prog 21 #[(.agg #[.int .u8 (q).tos, .int .u16 (q).id, .bool (q).keep, .int .u8 (q).ttl, .int .u8 (q).proto, .int .u32 (q).src, .int .u32 (q).dst, .slice B1 m1 d1, .slice B2 m2 d2]), .agg #[.int .u8 y, .int .u8 c, .int .u32 0, .slice A K c3]] W fun e w' => ∃ C1 e1 f1 C2 e2 f2, e = .returned (.tuple #[(.agg #[.int .u8 (Q).tos, .int .u16 (Q).id, .bool (Q).keep, .int .u8 (Q).ttl, .int .u8 (Q).proto, .int .u32 (Q).src, .int .u32 (Q).dst, .slice C1 e1 f1, .slice C2 e2 f2]), .int .i64 0]) ∧ Own w' W.heap.size 5 C1 e1 f1 Q.opt ∧ Own w' W.heap.size 5 C2 e2 f2 Q.dat ∧ Below W.heap.size W w' := fun W A c3 k k' => by
    refine (rbicmp_any q B1 m1 d1 B2 m2 d2 ⟨y, c, 0, M⟩ hMok A K c3 W k k').mono fun e w' h => ?_
    have := h.out
    rw [hwP] at this
    rw [show wiE q (8 + (⟨y, c, 0, M⟩ : Msg).dat.length) = 0 from hwi] at this
    exact this
  have cq : ∀ W C1 e1 f1 C2 e2 f2, Bs W C2 e2 f2 Q.dat → Calls Try.prog 24 #[(.agg #[.int .u8 (Q).tos, .int .u16 (Q).id, .bool (Q).keep, .int .u8 (Q).ttl, .int .u8 (Q).proto, .int .u32 (Q).src, .int .u32 (Q).dst, .slice C1 e1 f1, .slice C2 e2 f2])] W (TtPost W (ofT p) 0) := fun W C1 e1 f1 C2 e2 f2 k => by
    have := quo_any Q C1 e1 f1 C2 e2 f2 W k
    rw [t1, t2] at this
    exact this
  have co : ∀ W C1 e1 f1 C2 e2 f2, Bs W C2 e2 f2 Q.dat → Calls Try.prog 10 #[(.agg #[.int .u8 (Q).tos, .int .u16 (Q).id, .bool (Q).keep, .int .u8 (Q).ttl, .int .u8 (Q).proto, .int .u32 (Q).src, .int .u32 (Q).dst, .slice C1 e1 f1, .slice C2 e2 f2])] W fun e w' => e = .returned (.tuple #[.agg #[.int .u8 0, .int .u32 0, .int .u32 0, .int .u16 0, .int .u16 0], .int .i64 12]) ∧ Below W.heap.size W w' := fun W C1 e1 f1 C2 e2 f2 k => by
    have := of_any Q hQo C1 e1 f1 C2 e2 f2 W k (by have := k.len; omega)
    rw [t3, t4] at this
    exact this.mono fun e w' h => h.out
  have HN := Lib.hid hN
  obtain ⟨U, hU⟩ : ∃ q, ofT p = q := ⟨_, rfl⟩
  obtain ⟨L, hL⟩ : ∃ q, bdL p = q := ⟨_, rfl⟩
  rw [hU, hE] at hr
  rw [hU] at cq
  rw [hF, hL] at cb
  rw [hL] at HN hM
  have HM := Lib.hid hM
  have hKN : K ≤ N := by omega
  have hNp : 0 < N := by omega
  have i60 : ¬ (60000 : Int) < N := by omega
  have i40 : ¬ (40 : Int) < m1 := by omega
  have i4 := m4_no h4
  have i7 : 1 ≤ q7 ∧ q7 ≤ 65535 := by omega
  obtain ⟨i71, i72⟩ := i7
  obtain ⟨ht0, ht1⟩ := ht2
  have ihh : 20 ≤ hh ∧ hh ≤ 60000 := by omega
  have ih8 : 28 ≤ h8' ∧ h8' ≤ 60000 := by omega
  have idd : 8 ≤ dd ∧ dd ≤ 65535 := by omega
  obtain ⟨a1, a2⟩ := ihh
  obtain ⟨a3, a4⟩ := ih8
  obtain ⟨a5, a6⟩ := idd
  have hK0 : (K : Int) ≤ 60000 := by omega
  obtain ⟨i8, hi8, -, hs8, -⟩ := info_parts info_u8
  clear hU hE hF hL hM hN hp hq hQo hQp hQd hwi hwP t1 t2 t3 t4 hMok hMl hk8 hkk hbl h60 h40 h4 l1 l2 lq h8 hQ
  obtain ⟨k, hk⟩ : ∃ k : Nat, w.heap.size = k := ⟨_, rfl⟩
  obtain ⟨w1, hw1⟩ : ∃ W, ((w.alloc (.cells #[.int .u8 (p).tos, .int .u16 (p).id, .bool (p).keep, .int .u8 (p).ttl, .int .u8 (p).proto, .int .u32 (p).src, .int .u32 (p).dst, .slice A1 n1 c1, .slice A2 n2 c2] 26)).alloc (.cells #[.int .u8 (q).tos, .int .u16 (q).id, .bool (q).keep, .int .u8 (q).ttl, .int .u8 (q).proto, .int .u32 (q).src, .int .u32 (q).dst, .slice B1 m1 d1, .slice B2 m2 d2] 26)) = W := ⟨_, rfl⟩
  have P1 : Blk w1 k #[.int .u8 (p).tos, .int .u16 (p).id, .bool (p).keep, .int .u8 (p).ttl, .int .u8 (p).proto, .int .u32 (p).src, .int .u32 (p).dst, .slice A1 n1 c1, .slice A2 n2 c2] 26 := by rw [← hw1]; exact ((blk_new _ _ _ k (by simp [hk])).alloc _)
  have O1 : Blk w1 (k + 1) #[.int .u8 (q).tos, .int .u16 (q).id, .bool (q).keep, .int .u8 (q).ttl, .int .u8 (q).proto, .int .u32 (q).src, .int .u32 (q).dst, .slice B1 m1 d1, .slice B2 m2 d2] 26 := by rw [← hw1]; exact (blk_new _ _ _ (k + 1) (by simp [hk]))
  have R1 : Below w.heap.size w w1 := by rw [← hw1]; (repeat (first | with_reducible exact Below.refl _ _ | with_reducible refine below_drew ?_ | with_reducible refine below_drewN ?_ _ | with_reducible refine below_alloc ?_ (Nat.le_refl _) _ | with_reducible refine Below.setCell ?_ (by first | exact Nat.le_refl _ | (simp only []; omega)) _ | with_reducible assumption))
  have Pc1 := P1.cell
  have Oc1 := O1.cell
  have Pl1 := P1.lt
  have Ol1 := O1.lt
  have x1 := (k1).below R1
  have y1 := (k2).below R1
  have u1 := (j1).below R1
  have hr4 : n.tmod 3 = (r : Int) := by rw [Int.tmod_eq_emod_of_nonneg n0]; exact hr3
  clear hr3
  rcases hry with ⟨rfl, rfl⟩ | ⟨rfl, rfl⟩ | ⟨rfl, rfl⟩
  · have hr5 : n.tmod 3 = 0 := by simpa using hr4
    clear hr4
    go_enter Try.func9, Try.ntmps9
    go_wp2_with (first
      | (go_at_call 11; ((with_reducible refine (hr w1 y1).mono ?_); rintro e u2 ⟨⟨rfl, hB2⟩⟩); (obtain ⟨w2, hw2⟩ : ∃ W, u2.alloc (.cells #[.int .u8 (U).proto, .int .u32 (U).src, .int .u32 (U).dst, .int .u16 (U).sp, .int .u16 (U).dp] 28) = W := ⟨_, rfl⟩); have V2 : Below u2.heap.size u2 w2 := (by rw [← hw2]; (repeat (first | with_reducible exact Below.refl _ _ | with_reducible refine below_drew ?_ | with_reducible refine below_drewN ?_ _ | with_reducible refine below_alloc ?_ (Nat.le_refl _) _ | with_reducible refine Below.setCell ?_ (by first | exact Nat.le_refl _ | (simp only []; omega)) _ | with_reducible assumption))); (obtain ⟨kG2, hkG2⟩ : ∃ k : Nat, u2.heap.size = k := ⟨_, rfl⟩); have G2 : Blk w2 kG2 #[.int .u8 (U).proto, .int .u32 (U).src, .int .u32 (U).dst, .int .u16 (U).sp, .int .u16 (U).dp] 28 := (by rw [← hw2]; exact blk_new u2 _ _ _ hkG2); have Gc2 := G2.cell; have T2 := below_then hB2 V2; have P2 := P1.below T2; have Pc2 := P2.cell; clear Pc1; have O2 := O1.below T2; have Oc2 := O2.cell; clear Oc1; have x2 := x1.below T2; have y2 := y1.below T2; have u2 := u1.below T2; have R2 := below_then R1 T2)
      | (go_at_call 26; ((with_reducible refine (cb w2 x2 y2).mono ?_); rintro e w3 ⟨A3, n3, c3, rfl, ho3, hB3⟩); have u3 : n3 = N := (by rw [← ho3.len]; exact HN.out); subst u3; have z3 := ho3.bs; have P3 := P2.below hB3; have Pc3 := P3.cell; clear Pc2; have O3 := O2.below hB3; have Oc3 := O3.cell; clear Oc2; have G3 := G2.below hB3; have Gc3 := G3.cell; clear Gc2; have x3 := x2.below hB3; have y3 := y2.below hB3; have u3 := u2.below hB3; have R3 := below_then R2 hB3))
    obtain ⟨b3, o3, rfl⟩ := z3.some_ (by omega)
    have hcap3 := z3.cap
    have hcut3 : ∀ W, (Instr.slice 24 (.slice (some ⟨b3, o3, none⟩) n3 c3) none (some (.int .i64 (K : Int))) none).run Try.prog W = .ok (.slice (some ⟨b3, o3, none⟩) K c3) W := (fun W => by rw [cut_h Try.underlying24 hi8 hs8 (some ⟨b3, o3, none⟩) n3 c3 .i64 (K : Int) (by omega) (by omega) W]; simp [Addr.add])
    have t3 := z3.takeN hKN
    rw [HM.out] at t3
    refine region_z 17 15 (by kernel_rfl) (by kernel_rfl) (fun _ _ _ _ _ h => h) ?_; (iterate 17 (first | (apply ObsK.skip (by rfl)) | (apply ObsK.v (by rfl); (intro wo hT; (repeat (first | (intro v hv; ((first | (obtain ⟨gl, rfl, hL3⟩ := hv; have hLc := hL3.cell) | (obtain ⟨gl, cs, rfl, hP3, hPy⟩ := hv; have hPc := hP3.cell) | (obtain ⟨C1, e1, f1, C2, e2, f2, rfl, oo1, oo2⟩ := hv)))) | (intro _ _ k; try have hcv := cv k))); (have oc := (O3.below hT).cell; have uo := u3.below hT; have tq := t3.below hT; have hsz : w3.heap.size ≤ wo.heap.size := hT.size); refine Goes.mk ?_; go_simp; first | exact goes_v | exact goes_b (by assumption) | (first | exact goes_l3 | exact goes_p3 (by assumption) rfl | exact goes_tup5 (by assumption) (by assumption) | exact goes_pk (by assumption) (by assumption) | exact goes_new hsz) | (refine goes_enter ?_; first | (go_at_call 21; ((with_reducible refine (cm wo _ c3 uo tq).mono ?_); rintro e w7 ⟨C1, e1, f1, C2, e2, f2, rfl, oo1, oo2, hB7⟩); exact ret_tup (oo1.mono hsz) (oo2.mono hsz) hB7)))) | (apply ObsK.b (by rfl); (intro wo hT; (repeat (first | (intro v hv; ((first | (obtain ⟨gl, rfl, hL3⟩ := hv; have hLc := hL3.cell) | (obtain ⟨gl, cs, rfl, hP3, hPy⟩ := hv; have hPc := hP3.cell) | (obtain ⟨C1, e1, f1, C2, e2, f2, rfl, oo1, oo2⟩ := hv)))) | (intro _ _ k; try have hcv := cv k))); (have oc := (O3.below hT).cell; have uo := u3.below hT; have tq := t3.below hT; have hsz : w3.heap.size ≤ wo.heap.size := hT.size); refine Goes.mk ?_; go_simp; first | exact goes_v | exact goes_b (by assumption) | (first | exact goes_l3 | exact goes_p3 (by assumption) rfl | exact goes_tup5 (by assumption) (by assumption) | exact goes_pk (by assumption) (by assumption) | exact goes_new hsz) | (refine goes_enter ?_; first | (go_at_call 21; ((with_reducible refine (cm wo _ c3 uo tq).mono ?_); rintro e w7 ⟨C1, e1, f1, C2, e2, f2, rfl, oo1, oo2, hB7⟩); exact ret_tup (oo1.mono hsz) (oo2.mono hsz) hB7)))) | (apply ObsK.p (q := isL3) (by rfl) st_isL3; (intro wo hT; (repeat (first | (intro v hv; ((first | (obtain ⟨gl, rfl, hL3⟩ := hv; have hLc := hL3.cell) | (obtain ⟨gl, cs, rfl, hP3, hPy⟩ := hv; have hPc := hP3.cell) | (obtain ⟨C1, e1, f1, C2, e2, f2, rfl, oo1, oo2⟩ := hv)))) | (intro _ _ k; try have hcv := cv k))); (have oc := (O3.below hT).cell; have uo := u3.below hT; have tq := t3.below hT; have hsz : w3.heap.size ≤ wo.heap.size := hT.size); refine Goes.mk ?_; go_simp; first | exact goes_v | exact goes_b (by assumption) | (first | exact goes_l3 | exact goes_p3 (by assumption) rfl | exact goes_tup5 (by assumption) (by assumption) | exact goes_pk (by assumption) (by assumption) | exact goes_new hsz) | (refine goes_enter ?_; first | (go_at_call 21; ((with_reducible refine (cm wo _ c3 uo tq).mono ?_); rintro e w7 ⟨C1, e1, f1, C2, e2, f2, rfl, oo1, oo2, hB7⟩); exact ret_tup (oo1.mono hsz) (oo2.mono hsz) hB7)))) | (apply ObsK.p (q := isP3 0 (.int .u8 3)) (by rfl) st_isP3; (intro wo hT; (repeat (first | (intro v hv; ((first | (obtain ⟨gl, rfl, hL3⟩ := hv; have hLc := hL3.cell) | (obtain ⟨gl, cs, rfl, hP3, hPy⟩ := hv; have hPc := hP3.cell) | (obtain ⟨C1, e1, f1, C2, e2, f2, rfl, oo1, oo2⟩ := hv)))) | (intro _ _ k; try have hcv := cv k))); (have oc := (O3.below hT).cell; have uo := u3.below hT; have tq := t3.below hT; have hsz : w3.heap.size ≤ wo.heap.size := hT.size); refine Goes.mk ?_; go_simp; first | exact goes_v | exact goes_b (by assumption) | (first | exact goes_l3 | exact goes_p3 (by assumption) rfl | exact goes_tup5 (by assumption) (by assumption) | exact goes_pk (by assumption) (by assumption) | exact goes_new hsz) | (refine goes_enter ?_; first | (go_at_call 21; ((with_reducible refine (cm wo _ c3 uo tq).mono ?_); rintro e w7 ⟨C1, e1, f1, C2, e2, f2, rfl, oo1, oo2, hB7⟩); exact ret_tup (oo1.mono hsz) (oo2.mono hsz) hB7)))) | (apply ObsK.p (q := isTup w3.heap.size Q 0) (by rfl) st_isTup; (intro wo hT; (repeat (first | (intro v hv; ((first | (obtain ⟨gl, rfl, hL3⟩ := hv; have hLc := hL3.cell) | (obtain ⟨gl, cs, rfl, hP3, hPy⟩ := hv; have hPc := hP3.cell) | (obtain ⟨C1, e1, f1, C2, e2, f2, rfl, oo1, oo2⟩ := hv)))) | (intro _ _ k; try have hcv := cv k))); (have oc := (O3.below hT).cell; have uo := u3.below hT; have tq := t3.below hT; have hsz : w3.heap.size ≤ wo.heap.size := hT.size); refine Goes.mk ?_; go_simp; first | exact goes_v | exact goes_b (by assumption) | (first | exact goes_l3 | exact goes_p3 (by assumption) rfl | exact goes_tup5 (by assumption) (by assumption) | exact goes_pk (by assumption) (by assumption) | exact goes_new hsz) | (refine goes_enter ?_; first | (go_at_call 21; ((with_reducible refine (cm wo _ c3 uo tq).mono ?_); rintro e w7 ⟨C1, e1, f1, C2, e2, f2, rfl, oo1, oo2, hB7⟩); exact ret_tup (oo1.mono hsz) (oo2.mono hsz) hB7)))) | (apply ObsK.p (q := isPk w3.heap.size Q) (by rfl) st_isPk; (intro wo hT; (repeat (first | (intro v hv; ((first | (obtain ⟨gl, rfl, hL3⟩ := hv; have hLc := hL3.cell) | (obtain ⟨gl, cs, rfl, hP3, hPy⟩ := hv; have hPc := hP3.cell) | (obtain ⟨C1, e1, f1, C2, e2, f2, rfl, oo1, oo2⟩ := hv)))) | (intro _ _ k; try have hcv := cv k))); (have oc := (O3.below hT).cell; have uo := u3.below hT; have tq := t3.below hT; have hsz : w3.heap.size ≤ wo.heap.size := hT.size); refine Goes.mk ?_; go_simp; first | exact goes_v | exact goes_b (by assumption) | (first | exact goes_l3 | exact goes_p3 (by assumption) rfl | exact goes_tup5 (by assumption) (by assumption) | exact goes_pk (by assumption) (by assumption) | exact goes_new hsz) | (refine goes_enter ?_; first | (go_at_call 21; ((with_reducible refine (cm wo _ c3 uo tq).mono ?_); rintro e w7 ⟨C1, e1, f1, C2, e2, f2, rfl, oo1, oo2, hB7⟩); exact ret_tup (oo1.mono hsz) (oo2.mono hsz) hB7)))) | (apply ObsK.p (q := isNew w3.heap.size #[.int .u8 0, .int .u16 0, .bool false, .int .u8 0, .int .u8 0, .int .u32 0, .int .u32 0, .slice none 0 0, .slice none 0 0] 26) (by rfl) st_isNew; (intro wo hT; (repeat (first | (intro v hv; ((first | (obtain ⟨gl, rfl, hL3⟩ := hv; have hLc := hL3.cell) | (obtain ⟨gl, cs, rfl, hP3, hPy⟩ := hv; have hPc := hP3.cell) | (obtain ⟨C1, e1, f1, C2, e2, f2, rfl, oo1, oo2⟩ := hv)))) | (intro _ _ k; try have hcv := cv k))); (have oc := (O3.below hT).cell; have uo := u3.below hT; have tq := t3.below hT; have hsz : w3.heap.size ≤ wo.heap.size := hT.size); refine Goes.mk ?_; go_simp; first | exact goes_v | exact goes_b (by assumption) | (first | exact goes_l3 | exact goes_p3 (by assumption) rfl | exact goes_tup5 (by assumption) (by assumption) | exact goes_pk (by assumption) (by assumption) | exact goes_new hsz) | (refine goes_enter ?_; first | (go_at_call 21; ((with_reducible refine (cm wo _ c3 uo tq).mono ?_); rintro e w7 ⟨C1, e1, f1, C2, e2, f2, rfl, oo1, oo2, hB7⟩); exact ret_tup (oo1.mono hsz) (oo2.mono hsz) hB7)))))); refine ObsK.nil ?_; intro wz hBz; simp only [finOn, List.drop_succ_cons, List.drop_zero, List.drop_nil]
    rintro _ ⟨gS, rfl, hS, S2⟩ _ ⟨C1, e1, f1, C2, e2, f2, rfl, oo1, oo2⟩ _ ⟨D1, g1, i1, D2, g2, i2, -⟩ _ ⟨F1, x1', y1', F2, x2', y2', -⟩ _ ⟨gp, cs, rfl, -⟩ _ ⟨gl, rfl, -⟩
    go_simp
    have h77 : 26 ≠ 5 := by decide
    obtain ⟨wq, hwq, Sq⟩ := store9 S2 (.int .u8 Q.tos) (.int .u16 Q.id) (.bool Q.keep) (.int .u8 Q.ttl) (.int .u8 Q.proto) (.int .u32 Q.src) (.int .u32 Q.dst) (.slice C1 e1 f1) (.slice C2 e2 f2)
    have hBq := Sq.bel hBz hS
    have cS2 := S2.cell
    have kq := (Sq.own oo2 (fun a e => oo2.ne_blk S2 h77 a.block (by rw [e]; rfl))).bs
    have S4 := Sq.blk
    have Sc4 := S4.cell
    have v4 := kq
    have P4 := P3.below hBq
    have Pc4 := P4.cell
    clear Pc3
    have O4 := O3.below hBq
    have Oc4 := O4.cell
    clear Oc3
    have G4 := G3.below hBq
    have Gc4 := G4.cell
    clear Gc3
    have x4 := x3.below hBq
    have y4 := y3.below hBq
    have u4 := u3.below hBq
    have z4 := z3.below hBq
    have R4 := below_then R3 hBq
    go_wp2_with (first
      | (go_at_call 24; ((with_reducible refine (cq wq C1 e1 f1 C2 e2 f2 v4).mono ?_); rintro e u5 ⟨⟨rfl, hB5⟩⟩); (obtain ⟨w5, hw5⟩ : ∃ W, u5.alloc (.cells #[.int .u8 (U).proto, .int .u32 (U).src, .int .u32 (U).dst, .int .u16 (U).sp, .int .u16 (U).dp] 28) = W := ⟨_, rfl⟩); have V5 : Below u5.heap.size u5 w5 := (by rw [← hw5]; (repeat (first | with_reducible exact Below.refl _ _ | with_reducible refine below_drew ?_ | with_reducible refine below_drewN ?_ _ | with_reducible refine below_alloc ?_ (Nat.le_refl _) _ | with_reducible refine Below.setCell ?_ (by first | exact Nat.le_refl _ | (simp only []; omega)) _ | with_reducible assumption))); (obtain ⟨kX5, hkX5⟩ : ∃ k : Nat, u5.heap.size = k := ⟨_, rfl⟩); have X5 : Blk w5 kX5 #[.int .u8 (U).proto, .int .u32 (U).src, .int .u32 (U).dst, .int .u16 (U).sp, .int .u16 (U).dp] 28 := (by rw [← hw5]; exact blk_new u5 _ _ _ hkX5); have Xc5 := X5.cell; have T5 := below_then hB5 V5; have P5 := P4.below T5; have Pc5 := P5.cell; clear Pc4; have O5 := O4.below T5; have Oc5 := O5.cell; clear Oc4; have G5 := G4.below T5; have Gc5 := G5.cell; clear Gc4; have S5 := S4.below T5; have Sc5 := S5.cell; clear Sc4; have x5 := x4.below T5; have y5 := y4.below T5; have u5 := u4.below T5; have z5 := z4.below T5; have v5 := v4.below T5; have R5 := below_then R4 T5)
      | (go_at_call 10; ((with_reducible refine (co w5 C1 e1 f1 C2 e2 f2 v5).mono ?_); rintro e u6 ⟨rfl, hB6⟩); (obtain ⟨w6, hw6⟩ : ∃ W, u6.alloc (.cells #[.int .u8 0, .int .u32 0, .int .u32 0, .int .u16 0, .int .u16 0] 28) = W := ⟨_, rfl⟩); have V6 : Below u6.heap.size u6 w6 := (by rw [← hw6]; (repeat (first | with_reducible exact Below.refl _ _ | with_reducible refine below_drew ?_ | with_reducible refine below_drewN ?_ _ | with_reducible refine below_alloc ?_ (Nat.le_refl _) _ | with_reducible refine Below.setCell ?_ (by first | exact Nat.le_refl _ | (simp only []; omega)) _ | with_reducible assumption))); (obtain ⟨kY6, hkY6⟩ : ∃ k : Nat, u6.heap.size = k := ⟨_, rfl⟩); have Y6 : Blk w6 kY6 #[.int .u8 0, .int .u32 0, .int .u32 0, .int .u16 0, .int .u16 0] 28 := (by rw [← hw6]; exact blk_new u6 _ _ _ hkY6); have Yc6 := Y6.cell; have T6 := below_then hB6 V6; have P6 := P5.below T6; have Pc6 := P6.cell; clear Pc5; have O6 := O5.below T6; have Oc6 := O6.cell; clear Oc5; have G6 := G5.below T6; have Gc6 := G6.cell; clear Gc5; have S6 := S5.below T6; have Sc6 := S6.cell; clear Sc5; have X6 := X5.below T6; have Xc6 := X6.cell; clear Xc5; have x6 := x5.below T6; have y6 := y5.below T6; have u6 := u5.below T6; have z6 := z5.below T6; have v6 := v5.below T6; have R6 := below_then R5 T6; have yi0 : w6.setCell ⟨kY6, 0, none⟩ (.int .u8 0) = w6 := Y6.idle rfl; have yi1 : w6.setCell ⟨kY6, 1, none⟩ (.int .u32 0) = w6 := Y6.idle rfl; have yi2 : w6.setCell ⟨kY6, 2, none⟩ (.int .u32 0) = w6 := Y6.idle rfl; have yi3 : w6.setCell ⟨kY6, 3, none⟩ (.int .u16 0) = w6 := Y6.idle rfl; have yi4 : w6.setCell ⟨kY6, 4, none⟩ (.int .u16 0) = w6 := Y6.idle rfl)
      | (go_at_call 12; ((with_reducible refine (live05_any w6).mono ?_); rintro e w7 ⟨rfl, hB7⟩); have P7 := P6.below hB7; have Pc7 := P7.cell; clear Pc6; have O7 := O6.below hB7; have Oc7 := O7.cell; clear Oc6; have G7 := G6.below hB7; have Gc7 := G7.cell; clear Gc6; have S7 := S6.below hB7; have Sc7 := S7.cell; clear Sc6; have X7 := X6.below hB7; have Xc7 := X7.cell; clear Xc6; have Y7 := Y6.below hB7; have Yc7 := Y7.cell; clear Yc6; have x7 := x6.below hB7; have y7 := y6.below hB7; have u7 := u6.below hB7; have z7 := z6.below hB7; have v7 := v6.below hB7; have R7 := below_then R6 hB7))
    go_ret
    exact ⟨rfl, R7⟩

  · have hr5 : n.tmod 3 = 1 := by simpa using hr4
    clear hr4
    go_enter Try.func9, Try.ntmps9
    go_wp2_with (first
      | (go_at_call 11; ((with_reducible refine (hr w1 y1).mono ?_); rintro e u2 ⟨⟨rfl, hB2⟩⟩); (obtain ⟨w2, hw2⟩ : ∃ W, u2.alloc (.cells #[.int .u8 (U).proto, .int .u32 (U).src, .int .u32 (U).dst, .int .u16 (U).sp, .int .u16 (U).dp] 28) = W := ⟨_, rfl⟩); have V2 : Below u2.heap.size u2 w2 := (by rw [← hw2]; (repeat (first | with_reducible exact Below.refl _ _ | with_reducible refine below_drew ?_ | with_reducible refine below_drewN ?_ _ | with_reducible refine below_alloc ?_ (Nat.le_refl _) _ | with_reducible refine Below.setCell ?_ (by first | exact Nat.le_refl _ | (simp only []; omega)) _ | with_reducible assumption))); (obtain ⟨kG2, hkG2⟩ : ∃ k : Nat, u2.heap.size = k := ⟨_, rfl⟩); have G2 : Blk w2 kG2 #[.int .u8 (U).proto, .int .u32 (U).src, .int .u32 (U).dst, .int .u16 (U).sp, .int .u16 (U).dp] 28 := (by rw [← hw2]; exact blk_new u2 _ _ _ hkG2); have Gc2 := G2.cell; have T2 := below_then hB2 V2; have P2 := P1.below T2; have Pc2 := P2.cell; clear Pc1; have O2 := O1.below T2; have Oc2 := O2.cell; clear Oc1; have x2 := x1.below T2; have y2 := y1.below T2; have u2 := u1.below T2; have R2 := below_then R1 T2)
      | (go_at_call 26; ((with_reducible refine (cb w2 x2 y2).mono ?_); rintro e w3 ⟨A3, n3, c3, rfl, ho3, hB3⟩); have u3 : n3 = N := (by rw [← ho3.len]; exact HN.out); subst u3; have z3 := ho3.bs; have P3 := P2.below hB3; have Pc3 := P3.cell; clear Pc2; have O3 := O2.below hB3; have Oc3 := O3.cell; clear Oc2; have G3 := G2.below hB3; have Gc3 := G3.cell; clear Gc2; have x3 := x2.below hB3; have y3 := y2.below hB3; have u3 := u2.below hB3; have R3 := below_then R2 hB3))
    obtain ⟨b3, o3, rfl⟩ := z3.some_ (by omega)
    have hcap3 := z3.cap
    have hcut3 : ∀ W, (Instr.slice 24 (.slice (some ⟨b3, o3, none⟩) n3 c3) none (some (.int .i64 (K : Int))) none).run Try.prog W = .ok (.slice (some ⟨b3, o3, none⟩) K c3) W := (fun W => by rw [cut_h Try.underlying24 hi8 hs8 (some ⟨b3, o3, none⟩) n3 c3 .i64 (K : Int) (by omega) (by omega) W]; simp [Addr.add])
    have t3 := z3.takeN hKN
    rw [HM.out] at t3
    refine region_z 17 15 (by kernel_rfl) (by kernel_rfl) (fun _ _ _ _ _ h => h) ?_; (iterate 17 (first | (apply ObsK.skip (by rfl)) | (apply ObsK.v (by rfl); (intro wo hT; (repeat (first | (intro v hv; ((first | (obtain ⟨gl, rfl, hL3⟩ := hv; have hLc := hL3.cell) | (obtain ⟨gl, cs, rfl, hP3, hPy⟩ := hv; have hPc := hP3.cell) | (obtain ⟨C1, e1, f1, C2, e2, f2, rfl, oo1, oo2⟩ := hv)))) | (intro _ _ k; try have hcv := cv k))); (have oc := (O3.below hT).cell; have uo := u3.below hT; have tq := t3.below hT; have hsz : w3.heap.size ≤ wo.heap.size := hT.size); refine Goes.mk ?_; go_simp; first | exact goes_v | exact goes_b (by assumption) | (first | exact goes_l3 | exact goes_p3 (by assumption) rfl | exact goes_tup5 (by assumption) (by assumption) | exact goes_pk (by assumption) (by assumption) | exact goes_new hsz) | (refine goes_enter ?_; first | (go_at_call 21; ((with_reducible refine (cm wo _ c3 uo tq).mono ?_); rintro e w7 ⟨C1, e1, f1, C2, e2, f2, rfl, oo1, oo2, hB7⟩); exact ret_tup (oo1.mono hsz) (oo2.mono hsz) hB7)))) | (apply ObsK.b (by rfl); (intro wo hT; (repeat (first | (intro v hv; ((first | (obtain ⟨gl, rfl, hL3⟩ := hv; have hLc := hL3.cell) | (obtain ⟨gl, cs, rfl, hP3, hPy⟩ := hv; have hPc := hP3.cell) | (obtain ⟨C1, e1, f1, C2, e2, f2, rfl, oo1, oo2⟩ := hv)))) | (intro _ _ k; try have hcv := cv k))); (have oc := (O3.below hT).cell; have uo := u3.below hT; have tq := t3.below hT; have hsz : w3.heap.size ≤ wo.heap.size := hT.size); refine Goes.mk ?_; go_simp; first | exact goes_v | exact goes_b (by assumption) | (first | exact goes_l3 | exact goes_p3 (by assumption) rfl | exact goes_tup5 (by assumption) (by assumption) | exact goes_pk (by assumption) (by assumption) | exact goes_new hsz) | (refine goes_enter ?_; first | (go_at_call 21; ((with_reducible refine (cm wo _ c3 uo tq).mono ?_); rintro e w7 ⟨C1, e1, f1, C2, e2, f2, rfl, oo1, oo2, hB7⟩); exact ret_tup (oo1.mono hsz) (oo2.mono hsz) hB7)))) | (apply ObsK.p (q := isL3) (by rfl) st_isL3; (intro wo hT; (repeat (first | (intro v hv; ((first | (obtain ⟨gl, rfl, hL3⟩ := hv; have hLc := hL3.cell) | (obtain ⟨gl, cs, rfl, hP3, hPy⟩ := hv; have hPc := hP3.cell) | (obtain ⟨C1, e1, f1, C2, e2, f2, rfl, oo1, oo2⟩ := hv)))) | (intro _ _ k; try have hcv := cv k))); (have oc := (O3.below hT).cell; have uo := u3.below hT; have tq := t3.below hT; have hsz : w3.heap.size ≤ wo.heap.size := hT.size); refine Goes.mk ?_; go_simp; first | exact goes_v | exact goes_b (by assumption) | (first | exact goes_l3 | exact goes_p3 (by assumption) rfl | exact goes_tup5 (by assumption) (by assumption) | exact goes_pk (by assumption) (by assumption) | exact goes_new hsz) | (refine goes_enter ?_; first | (go_at_call 21; ((with_reducible refine (cm wo _ c3 uo tq).mono ?_); rintro e w7 ⟨C1, e1, f1, C2, e2, f2, rfl, oo1, oo2, hB7⟩); exact ret_tup (oo1.mono hsz) (oo2.mono hsz) hB7)))) | (apply ObsK.p (q := isP3 1 (.int .u8 11)) (by rfl) st_isP3; (intro wo hT; (repeat (first | (intro v hv; ((first | (obtain ⟨gl, rfl, hL3⟩ := hv; have hLc := hL3.cell) | (obtain ⟨gl, cs, rfl, hP3, hPy⟩ := hv; have hPc := hP3.cell) | (obtain ⟨C1, e1, f1, C2, e2, f2, rfl, oo1, oo2⟩ := hv)))) | (intro _ _ k; try have hcv := cv k))); (have oc := (O3.below hT).cell; have uo := u3.below hT; have tq := t3.below hT; have hsz : w3.heap.size ≤ wo.heap.size := hT.size); refine Goes.mk ?_; go_simp; first | exact goes_v | exact goes_b (by assumption) | (first | exact goes_l3 | exact goes_p3 (by assumption) rfl | exact goes_tup5 (by assumption) (by assumption) | exact goes_pk (by assumption) (by assumption) | exact goes_new hsz) | (refine goes_enter ?_; first | (go_at_call 21; ((with_reducible refine (cm wo _ c3 uo tq).mono ?_); rintro e w7 ⟨C1, e1, f1, C2, e2, f2, rfl, oo1, oo2, hB7⟩); exact ret_tup (oo1.mono hsz) (oo2.mono hsz) hB7)))) | (apply ObsK.p (q := isTup w3.heap.size Q 0) (by rfl) st_isTup; (intro wo hT; (repeat (first | (intro v hv; ((first | (obtain ⟨gl, rfl, hL3⟩ := hv; have hLc := hL3.cell) | (obtain ⟨gl, cs, rfl, hP3, hPy⟩ := hv; have hPc := hP3.cell) | (obtain ⟨C1, e1, f1, C2, e2, f2, rfl, oo1, oo2⟩ := hv)))) | (intro _ _ k; try have hcv := cv k))); (have oc := (O3.below hT).cell; have uo := u3.below hT; have tq := t3.below hT; have hsz : w3.heap.size ≤ wo.heap.size := hT.size); refine Goes.mk ?_; go_simp; first | exact goes_v | exact goes_b (by assumption) | (first | exact goes_l3 | exact goes_p3 (by assumption) rfl | exact goes_tup5 (by assumption) (by assumption) | exact goes_pk (by assumption) (by assumption) | exact goes_new hsz) | (refine goes_enter ?_; first | (go_at_call 21; ((with_reducible refine (cm wo _ c3 uo tq).mono ?_); rintro e w7 ⟨C1, e1, f1, C2, e2, f2, rfl, oo1, oo2, hB7⟩); exact ret_tup (oo1.mono hsz) (oo2.mono hsz) hB7)))) | (apply ObsK.p (q := isPk w3.heap.size Q) (by rfl) st_isPk; (intro wo hT; (repeat (first | (intro v hv; ((first | (obtain ⟨gl, rfl, hL3⟩ := hv; have hLc := hL3.cell) | (obtain ⟨gl, cs, rfl, hP3, hPy⟩ := hv; have hPc := hP3.cell) | (obtain ⟨C1, e1, f1, C2, e2, f2, rfl, oo1, oo2⟩ := hv)))) | (intro _ _ k; try have hcv := cv k))); (have oc := (O3.below hT).cell; have uo := u3.below hT; have tq := t3.below hT; have hsz : w3.heap.size ≤ wo.heap.size := hT.size); refine Goes.mk ?_; go_simp; first | exact goes_v | exact goes_b (by assumption) | (first | exact goes_l3 | exact goes_p3 (by assumption) rfl | exact goes_tup5 (by assumption) (by assumption) | exact goes_pk (by assumption) (by assumption) | exact goes_new hsz) | (refine goes_enter ?_; first | (go_at_call 21; ((with_reducible refine (cm wo _ c3 uo tq).mono ?_); rintro e w7 ⟨C1, e1, f1, C2, e2, f2, rfl, oo1, oo2, hB7⟩); exact ret_tup (oo1.mono hsz) (oo2.mono hsz) hB7)))) | (apply ObsK.p (q := isNew w3.heap.size #[.int .u8 0, .int .u16 0, .bool false, .int .u8 0, .int .u8 0, .int .u32 0, .int .u32 0, .slice none 0 0, .slice none 0 0] 26) (by rfl) st_isNew; (intro wo hT; (repeat (first | (intro v hv; ((first | (obtain ⟨gl, rfl, hL3⟩ := hv; have hLc := hL3.cell) | (obtain ⟨gl, cs, rfl, hP3, hPy⟩ := hv; have hPc := hP3.cell) | (obtain ⟨C1, e1, f1, C2, e2, f2, rfl, oo1, oo2⟩ := hv)))) | (intro _ _ k; try have hcv := cv k))); (have oc := (O3.below hT).cell; have uo := u3.below hT; have tq := t3.below hT; have hsz : w3.heap.size ≤ wo.heap.size := hT.size); refine Goes.mk ?_; go_simp; first | exact goes_v | exact goes_b (by assumption) | (first | exact goes_l3 | exact goes_p3 (by assumption) rfl | exact goes_tup5 (by assumption) (by assumption) | exact goes_pk (by assumption) (by assumption) | exact goes_new hsz) | (refine goes_enter ?_; first | (go_at_call 21; ((with_reducible refine (cm wo _ c3 uo tq).mono ?_); rintro e w7 ⟨C1, e1, f1, C2, e2, f2, rfl, oo1, oo2, hB7⟩); exact ret_tup (oo1.mono hsz) (oo2.mono hsz) hB7)))))); refine ObsK.nil ?_; intro wz hBz; simp only [finOn, List.drop_succ_cons, List.drop_zero, List.drop_nil]
    rintro _ ⟨gS, rfl, hS, S2⟩ _ ⟨C1, e1, f1, C2, e2, f2, rfl, oo1, oo2⟩ _ ⟨D1, g1, i1, D2, g2, i2, -⟩ _ ⟨F1, x1', y1', F2, x2', y2', -⟩ _ ⟨gp, cs, rfl, -⟩ _ ⟨gl, rfl, -⟩
    go_simp
    have h77 : 26 ≠ 5 := by decide
    obtain ⟨wq, hwq, Sq⟩ := store9 S2 (.int .u8 Q.tos) (.int .u16 Q.id) (.bool Q.keep) (.int .u8 Q.ttl) (.int .u8 Q.proto) (.int .u32 Q.src) (.int .u32 Q.dst) (.slice C1 e1 f1) (.slice C2 e2 f2)
    have hBq := Sq.bel hBz hS
    have cS2 := S2.cell
    have kq := (Sq.own oo2 (fun a e => oo2.ne_blk S2 h77 a.block (by rw [e]; rfl))).bs
    have S4 := Sq.blk
    have Sc4 := S4.cell
    have v4 := kq
    have P4 := P3.below hBq
    have Pc4 := P4.cell
    clear Pc3
    have O4 := O3.below hBq
    have Oc4 := O4.cell
    clear Oc3
    have G4 := G3.below hBq
    have Gc4 := G4.cell
    clear Gc3
    have x4 := x3.below hBq
    have y4 := y3.below hBq
    have u4 := u3.below hBq
    have z4 := z3.below hBq
    have R4 := below_then R3 hBq
    go_wp2_with (first
      | (go_at_call 24; ((with_reducible refine (cq wq C1 e1 f1 C2 e2 f2 v4).mono ?_); rintro e u5 ⟨⟨rfl, hB5⟩⟩); (obtain ⟨w5, hw5⟩ : ∃ W, u5.alloc (.cells #[.int .u8 (U).proto, .int .u32 (U).src, .int .u32 (U).dst, .int .u16 (U).sp, .int .u16 (U).dp] 28) = W := ⟨_, rfl⟩); have V5 : Below u5.heap.size u5 w5 := (by rw [← hw5]; (repeat (first | with_reducible exact Below.refl _ _ | with_reducible refine below_drew ?_ | with_reducible refine below_drewN ?_ _ | with_reducible refine below_alloc ?_ (Nat.le_refl _) _ | with_reducible refine Below.setCell ?_ (by first | exact Nat.le_refl _ | (simp only []; omega)) _ | with_reducible assumption))); (obtain ⟨kX5, hkX5⟩ : ∃ k : Nat, u5.heap.size = k := ⟨_, rfl⟩); have X5 : Blk w5 kX5 #[.int .u8 (U).proto, .int .u32 (U).src, .int .u32 (U).dst, .int .u16 (U).sp, .int .u16 (U).dp] 28 := (by rw [← hw5]; exact blk_new u5 _ _ _ hkX5); have Xc5 := X5.cell; have T5 := below_then hB5 V5; have P5 := P4.below T5; have Pc5 := P5.cell; clear Pc4; have O5 := O4.below T5; have Oc5 := O5.cell; clear Oc4; have G5 := G4.below T5; have Gc5 := G5.cell; clear Gc4; have S5 := S4.below T5; have Sc5 := S5.cell; clear Sc4; have x5 := x4.below T5; have y5 := y4.below T5; have u5 := u4.below T5; have z5 := z4.below T5; have v5 := v4.below T5; have R5 := below_then R4 T5)
      | (go_at_call 10; ((with_reducible refine (co w5 C1 e1 f1 C2 e2 f2 v5).mono ?_); rintro e u6 ⟨rfl, hB6⟩); (obtain ⟨w6, hw6⟩ : ∃ W, u6.alloc (.cells #[.int .u8 0, .int .u32 0, .int .u32 0, .int .u16 0, .int .u16 0] 28) = W := ⟨_, rfl⟩); have V6 : Below u6.heap.size u6 w6 := (by rw [← hw6]; (repeat (first | with_reducible exact Below.refl _ _ | with_reducible refine below_drew ?_ | with_reducible refine below_drewN ?_ _ | with_reducible refine below_alloc ?_ (Nat.le_refl _) _ | with_reducible refine Below.setCell ?_ (by first | exact Nat.le_refl _ | (simp only []; omega)) _ | with_reducible assumption))); (obtain ⟨kY6, hkY6⟩ : ∃ k : Nat, u6.heap.size = k := ⟨_, rfl⟩); have Y6 : Blk w6 kY6 #[.int .u8 0, .int .u32 0, .int .u32 0, .int .u16 0, .int .u16 0] 28 := (by rw [← hw6]; exact blk_new u6 _ _ _ hkY6); have Yc6 := Y6.cell; have T6 := below_then hB6 V6; have P6 := P5.below T6; have Pc6 := P6.cell; clear Pc5; have O6 := O5.below T6; have Oc6 := O6.cell; clear Oc5; have G6 := G5.below T6; have Gc6 := G6.cell; clear Gc5; have S6 := S5.below T6; have Sc6 := S6.cell; clear Sc5; have X6 := X5.below T6; have Xc6 := X6.cell; clear Xc5; have x6 := x5.below T6; have y6 := y5.below T6; have u6 := u5.below T6; have z6 := z5.below T6; have v6 := v5.below T6; have R6 := below_then R5 T6; have yi0 : w6.setCell ⟨kY6, 0, none⟩ (.int .u8 0) = w6 := Y6.idle rfl; have yi1 : w6.setCell ⟨kY6, 1, none⟩ (.int .u32 0) = w6 := Y6.idle rfl; have yi2 : w6.setCell ⟨kY6, 2, none⟩ (.int .u32 0) = w6 := Y6.idle rfl; have yi3 : w6.setCell ⟨kY6, 3, none⟩ (.int .u16 0) = w6 := Y6.idle rfl; have yi4 : w6.setCell ⟨kY6, 4, none⟩ (.int .u16 0) = w6 := Y6.idle rfl)
      | (go_at_call 12; ((with_reducible refine (live05_any w6).mono ?_); rintro e w7 ⟨rfl, hB7⟩); have P7 := P6.below hB7; have Pc7 := P7.cell; clear Pc6; have O7 := O6.below hB7; have Oc7 := O7.cell; clear Oc6; have G7 := G6.below hB7; have Gc7 := G7.cell; clear Gc6; have S7 := S6.below hB7; have Sc7 := S7.cell; clear Sc6; have X7 := X6.below hB7; have Xc7 := X7.cell; clear Xc6; have Y7 := Y6.below hB7; have Yc7 := Y7.cell; clear Yc6; have x7 := x6.below hB7; have y7 := y6.below hB7; have u7 := u6.below hB7; have z7 := z6.below hB7; have v7 := v6.below hB7; have R7 := below_then R6 hB7))
    go_ret
    exact ⟨rfl, R7⟩

  · have hr5 : n.tmod 3 = 2 := by simpa using hr4
    clear hr4
    go_enter Try.func9, Try.ntmps9
    go_wp2_with (first
      | (go_at_call 11; ((with_reducible refine (hr w1 y1).mono ?_); rintro e u2 ⟨⟨rfl, hB2⟩⟩); (obtain ⟨w2, hw2⟩ : ∃ W, u2.alloc (.cells #[.int .u8 (U).proto, .int .u32 (U).src, .int .u32 (U).dst, .int .u16 (U).sp, .int .u16 (U).dp] 28) = W := ⟨_, rfl⟩); have V2 : Below u2.heap.size u2 w2 := (by rw [← hw2]; (repeat (first | with_reducible exact Below.refl _ _ | with_reducible refine below_drew ?_ | with_reducible refine below_drewN ?_ _ | with_reducible refine below_alloc ?_ (Nat.le_refl _) _ | with_reducible refine Below.setCell ?_ (by first | exact Nat.le_refl _ | (simp only []; omega)) _ | with_reducible assumption))); (obtain ⟨kG2, hkG2⟩ : ∃ k : Nat, u2.heap.size = k := ⟨_, rfl⟩); have G2 : Blk w2 kG2 #[.int .u8 (U).proto, .int .u32 (U).src, .int .u32 (U).dst, .int .u16 (U).sp, .int .u16 (U).dp] 28 := (by rw [← hw2]; exact blk_new u2 _ _ _ hkG2); have Gc2 := G2.cell; have T2 := below_then hB2 V2; have P2 := P1.below T2; have Pc2 := P2.cell; clear Pc1; have O2 := O1.below T2; have Oc2 := O2.cell; clear Oc1; have x2 := x1.below T2; have y2 := y1.below T2; have u2 := u1.below T2; have R2 := below_then R1 T2)
      | (go_at_call 26; ((with_reducible refine (cb w2 x2 y2).mono ?_); rintro e w3 ⟨A3, n3, c3, rfl, ho3, hB3⟩); have u3 : n3 = N := (by rw [← ho3.len]; exact HN.out); subst u3; have z3 := ho3.bs; have P3 := P2.below hB3; have Pc3 := P3.cell; clear Pc2; have O3 := O2.below hB3; have Oc3 := O3.cell; clear Oc2; have G3 := G2.below hB3; have Gc3 := G3.cell; clear Gc2; have x3 := x2.below hB3; have y3 := y2.below hB3; have u3 := u2.below hB3; have R3 := below_then R2 hB3))
    obtain ⟨b3, o3, rfl⟩ := z3.some_ (by omega)
    have hcap3 := z3.cap
    have hcut3 : ∀ W, (Instr.slice 24 (.slice (some ⟨b3, o3, none⟩) n3 c3) none (some (.int .i64 (K : Int))) none).run Try.prog W = .ok (.slice (some ⟨b3, o3, none⟩) K c3) W := (fun W => by rw [cut_h Try.underlying24 hi8 hs8 (some ⟨b3, o3, none⟩) n3 c3 .i64 (K : Int) (by omega) (by omega) W]; simp [Addr.add])
    have t3 := z3.takeN hKN
    rw [HM.out] at t3
    refine region_z 17 15 (by kernel_rfl) (by kernel_rfl) (fun _ _ _ _ _ h => h) ?_; (iterate 17 (first | (apply ObsK.skip (by rfl)) | (apply ObsK.v (by rfl); (intro wo hT; (repeat (first | (intro v hv; ((first | (obtain ⟨gl, rfl, hL3⟩ := hv; have hLc := hL3.cell) | (obtain ⟨gl, cs, rfl, hP3, hPy⟩ := hv; have hPc := hP3.cell) | (obtain ⟨C1, e1, f1, C2, e2, f2, rfl, oo1, oo2⟩ := hv)))) | (intro _ _ k; try have hcv := cv k))); (have oc := (O3.below hT).cell; have uo := u3.below hT; have tq := t3.below hT; have hsz : w3.heap.size ≤ wo.heap.size := hT.size); refine Goes.mk ?_; go_simp; first | exact goes_v | exact goes_b (by assumption) | (first | exact goes_l3 | exact goes_p3 (by assumption) rfl | exact goes_tup5 (by assumption) (by assumption) | exact goes_pk (by assumption) (by assumption) | exact goes_new hsz) | (refine goes_enter ?_; first | (go_at_call 21; ((with_reducible refine (cm wo _ c3 uo tq).mono ?_); rintro e w7 ⟨C1, e1, f1, C2, e2, f2, rfl, oo1, oo2, hB7⟩); exact ret_tup (oo1.mono hsz) (oo2.mono hsz) hB7)))) | (apply ObsK.b (by rfl); (intro wo hT; (repeat (first | (intro v hv; ((first | (obtain ⟨gl, rfl, hL3⟩ := hv; have hLc := hL3.cell) | (obtain ⟨gl, cs, rfl, hP3, hPy⟩ := hv; have hPc := hP3.cell) | (obtain ⟨C1, e1, f1, C2, e2, f2, rfl, oo1, oo2⟩ := hv)))) | (intro _ _ k; try have hcv := cv k))); (have oc := (O3.below hT).cell; have uo := u3.below hT; have tq := t3.below hT; have hsz : w3.heap.size ≤ wo.heap.size := hT.size); refine Goes.mk ?_; go_simp; first | exact goes_v | exact goes_b (by assumption) | (first | exact goes_l3 | exact goes_p3 (by assumption) rfl | exact goes_tup5 (by assumption) (by assumption) | exact goes_pk (by assumption) (by assumption) | exact goes_new hsz) | (refine goes_enter ?_; first | (go_at_call 21; ((with_reducible refine (cm wo _ c3 uo tq).mono ?_); rintro e w7 ⟨C1, e1, f1, C2, e2, f2, rfl, oo1, oo2, hB7⟩); exact ret_tup (oo1.mono hsz) (oo2.mono hsz) hB7)))) | (apply ObsK.p (q := isL3) (by rfl) st_isL3; (intro wo hT; (repeat (first | (intro v hv; ((first | (obtain ⟨gl, rfl, hL3⟩ := hv; have hLc := hL3.cell) | (obtain ⟨gl, cs, rfl, hP3, hPy⟩ := hv; have hPc := hP3.cell) | (obtain ⟨C1, e1, f1, C2, e2, f2, rfl, oo1, oo2⟩ := hv)))) | (intro _ _ k; try have hcv := cv k))); (have oc := (O3.below hT).cell; have uo := u3.below hT; have tq := t3.below hT; have hsz : w3.heap.size ≤ wo.heap.size := hT.size); refine Goes.mk ?_; go_simp; first | exact goes_v | exact goes_b (by assumption) | (first | exact goes_l3 | exact goes_p3 (by assumption) rfl | exact goes_tup5 (by assumption) (by assumption) | exact goes_pk (by assumption) (by assumption) | exact goes_new hsz) | (refine goes_enter ?_; first | (go_at_call 21; ((with_reducible refine (cm wo _ c3 uo tq).mono ?_); rintro e w7 ⟨C1, e1, f1, C2, e2, f2, rfl, oo1, oo2, hB7⟩); exact ret_tup (oo1.mono hsz) (oo2.mono hsz) hB7)))) | (apply ObsK.p (q := isP3 2 (.int .u8 12)) (by rfl) st_isP3; (intro wo hT; (repeat (first | (intro v hv; ((first | (obtain ⟨gl, rfl, hL3⟩ := hv; have hLc := hL3.cell) | (obtain ⟨gl, cs, rfl, hP3, hPy⟩ := hv; have hPc := hP3.cell) | (obtain ⟨C1, e1, f1, C2, e2, f2, rfl, oo1, oo2⟩ := hv)))) | (intro _ _ k; try have hcv := cv k))); (have oc := (O3.below hT).cell; have uo := u3.below hT; have tq := t3.below hT; have hsz : w3.heap.size ≤ wo.heap.size := hT.size); refine Goes.mk ?_; go_simp; first | exact goes_v | exact goes_b (by assumption) | (first | exact goes_l3 | exact goes_p3 (by assumption) rfl | exact goes_tup5 (by assumption) (by assumption) | exact goes_pk (by assumption) (by assumption) | exact goes_new hsz) | (refine goes_enter ?_; first | (go_at_call 21; ((with_reducible refine (cm wo _ c3 uo tq).mono ?_); rintro e w7 ⟨C1, e1, f1, C2, e2, f2, rfl, oo1, oo2, hB7⟩); exact ret_tup (oo1.mono hsz) (oo2.mono hsz) hB7)))) | (apply ObsK.p (q := isTup w3.heap.size Q 0) (by rfl) st_isTup; (intro wo hT; (repeat (first | (intro v hv; ((first | (obtain ⟨gl, rfl, hL3⟩ := hv; have hLc := hL3.cell) | (obtain ⟨gl, cs, rfl, hP3, hPy⟩ := hv; have hPc := hP3.cell) | (obtain ⟨C1, e1, f1, C2, e2, f2, rfl, oo1, oo2⟩ := hv)))) | (intro _ _ k; try have hcv := cv k))); (have oc := (O3.below hT).cell; have uo := u3.below hT; have tq := t3.below hT; have hsz : w3.heap.size ≤ wo.heap.size := hT.size); refine Goes.mk ?_; go_simp; first | exact goes_v | exact goes_b (by assumption) | (first | exact goes_l3 | exact goes_p3 (by assumption) rfl | exact goes_tup5 (by assumption) (by assumption) | exact goes_pk (by assumption) (by assumption) | exact goes_new hsz) | (refine goes_enter ?_; first | (go_at_call 21; ((with_reducible refine (cm wo _ c3 uo tq).mono ?_); rintro e w7 ⟨C1, e1, f1, C2, e2, f2, rfl, oo1, oo2, hB7⟩); exact ret_tup (oo1.mono hsz) (oo2.mono hsz) hB7)))) | (apply ObsK.p (q := isPk w3.heap.size Q) (by rfl) st_isPk; (intro wo hT; (repeat (first | (intro v hv; ((first | (obtain ⟨gl, rfl, hL3⟩ := hv; have hLc := hL3.cell) | (obtain ⟨gl, cs, rfl, hP3, hPy⟩ := hv; have hPc := hP3.cell) | (obtain ⟨C1, e1, f1, C2, e2, f2, rfl, oo1, oo2⟩ := hv)))) | (intro _ _ k; try have hcv := cv k))); (have oc := (O3.below hT).cell; have uo := u3.below hT; have tq := t3.below hT; have hsz : w3.heap.size ≤ wo.heap.size := hT.size); refine Goes.mk ?_; go_simp; first | exact goes_v | exact goes_b (by assumption) | (first | exact goes_l3 | exact goes_p3 (by assumption) rfl | exact goes_tup5 (by assumption) (by assumption) | exact goes_pk (by assumption) (by assumption) | exact goes_new hsz) | (refine goes_enter ?_; first | (go_at_call 21; ((with_reducible refine (cm wo _ c3 uo tq).mono ?_); rintro e w7 ⟨C1, e1, f1, C2, e2, f2, rfl, oo1, oo2, hB7⟩); exact ret_tup (oo1.mono hsz) (oo2.mono hsz) hB7)))) | (apply ObsK.p (q := isNew w3.heap.size #[.int .u8 0, .int .u16 0, .bool false, .int .u8 0, .int .u8 0, .int .u32 0, .int .u32 0, .slice none 0 0, .slice none 0 0] 26) (by rfl) st_isNew; (intro wo hT; (repeat (first | (intro v hv; ((first | (obtain ⟨gl, rfl, hL3⟩ := hv; have hLc := hL3.cell) | (obtain ⟨gl, cs, rfl, hP3, hPy⟩ := hv; have hPc := hP3.cell) | (obtain ⟨C1, e1, f1, C2, e2, f2, rfl, oo1, oo2⟩ := hv)))) | (intro _ _ k; try have hcv := cv k))); (have oc := (O3.below hT).cell; have uo := u3.below hT; have tq := t3.below hT; have hsz : w3.heap.size ≤ wo.heap.size := hT.size); refine Goes.mk ?_; go_simp; first | exact goes_v | exact goes_b (by assumption) | (first | exact goes_l3 | exact goes_p3 (by assumption) rfl | exact goes_tup5 (by assumption) (by assumption) | exact goes_pk (by assumption) (by assumption) | exact goes_new hsz) | (refine goes_enter ?_; first | (go_at_call 21; ((with_reducible refine (cm wo _ c3 uo tq).mono ?_); rintro e w7 ⟨C1, e1, f1, C2, e2, f2, rfl, oo1, oo2, hB7⟩); exact ret_tup (oo1.mono hsz) (oo2.mono hsz) hB7)))))); refine ObsK.nil ?_; intro wz hBz; simp only [finOn, List.drop_succ_cons, List.drop_zero, List.drop_nil]
    rintro _ ⟨gS, rfl, hS, S2⟩ _ ⟨C1, e1, f1, C2, e2, f2, rfl, oo1, oo2⟩ _ ⟨D1, g1, i1, D2, g2, i2, -⟩ _ ⟨F1, x1', y1', F2, x2', y2', -⟩ _ ⟨gp, cs, rfl, -⟩ _ ⟨gl, rfl, -⟩
    go_simp
    have h77 : 26 ≠ 5 := by decide
    obtain ⟨wq, hwq, Sq⟩ := store9 S2 (.int .u8 Q.tos) (.int .u16 Q.id) (.bool Q.keep) (.int .u8 Q.ttl) (.int .u8 Q.proto) (.int .u32 Q.src) (.int .u32 Q.dst) (.slice C1 e1 f1) (.slice C2 e2 f2)
    have hBq := Sq.bel hBz hS
    have cS2 := S2.cell
    have kq := (Sq.own oo2 (fun a e => oo2.ne_blk S2 h77 a.block (by rw [e]; rfl))).bs
    have S4 := Sq.blk
    have Sc4 := S4.cell
    have v4 := kq
    have P4 := P3.below hBq
    have Pc4 := P4.cell
    clear Pc3
    have O4 := O3.below hBq
    have Oc4 := O4.cell
    clear Oc3
    have G4 := G3.below hBq
    have Gc4 := G4.cell
    clear Gc3
    have x4 := x3.below hBq
    have y4 := y3.below hBq
    have u4 := u3.below hBq
    have z4 := z3.below hBq
    have R4 := below_then R3 hBq
    go_wp2_with (first
      | (go_at_call 24; ((with_reducible refine (cq wq C1 e1 f1 C2 e2 f2 v4).mono ?_); rintro e u5 ⟨⟨rfl, hB5⟩⟩); (obtain ⟨w5, hw5⟩ : ∃ W, u5.alloc (.cells #[.int .u8 (U).proto, .int .u32 (U).src, .int .u32 (U).dst, .int .u16 (U).sp, .int .u16 (U).dp] 28) = W := ⟨_, rfl⟩); have V5 : Below u5.heap.size u5 w5 := (by rw [← hw5]; (repeat (first | with_reducible exact Below.refl _ _ | with_reducible refine below_drew ?_ | with_reducible refine below_drewN ?_ _ | with_reducible refine below_alloc ?_ (Nat.le_refl _) _ | with_reducible refine Below.setCell ?_ (by first | exact Nat.le_refl _ | (simp only []; omega)) _ | with_reducible assumption))); (obtain ⟨kX5, hkX5⟩ : ∃ k : Nat, u5.heap.size = k := ⟨_, rfl⟩); have X5 : Blk w5 kX5 #[.int .u8 (U).proto, .int .u32 (U).src, .int .u32 (U).dst, .int .u16 (U).sp, .int .u16 (U).dp] 28 := (by rw [← hw5]; exact blk_new u5 _ _ _ hkX5); have Xc5 := X5.cell; have T5 := below_then hB5 V5; have P5 := P4.below T5; have Pc5 := P5.cell; clear Pc4; have O5 := O4.below T5; have Oc5 := O5.cell; clear Oc4; have G5 := G4.below T5; have Gc5 := G5.cell; clear Gc4; have S5 := S4.below T5; have Sc5 := S5.cell; clear Sc4; have x5 := x4.below T5; have y5 := y4.below T5; have u5 := u4.below T5; have z5 := z4.below T5; have v5 := v4.below T5; have R5 := below_then R4 T5)
      | (go_at_call 10; ((with_reducible refine (co w5 C1 e1 f1 C2 e2 f2 v5).mono ?_); rintro e u6 ⟨rfl, hB6⟩); (obtain ⟨w6, hw6⟩ : ∃ W, u6.alloc (.cells #[.int .u8 0, .int .u32 0, .int .u32 0, .int .u16 0, .int .u16 0] 28) = W := ⟨_, rfl⟩); have V6 : Below u6.heap.size u6 w6 := (by rw [← hw6]; (repeat (first | with_reducible exact Below.refl _ _ | with_reducible refine below_drew ?_ | with_reducible refine below_drewN ?_ _ | with_reducible refine below_alloc ?_ (Nat.le_refl _) _ | with_reducible refine Below.setCell ?_ (by first | exact Nat.le_refl _ | (simp only []; omega)) _ | with_reducible assumption))); (obtain ⟨kY6, hkY6⟩ : ∃ k : Nat, u6.heap.size = k := ⟨_, rfl⟩); have Y6 : Blk w6 kY6 #[.int .u8 0, .int .u32 0, .int .u32 0, .int .u16 0, .int .u16 0] 28 := (by rw [← hw6]; exact blk_new u6 _ _ _ hkY6); have Yc6 := Y6.cell; have T6 := below_then hB6 V6; have P6 := P5.below T6; have Pc6 := P6.cell; clear Pc5; have O6 := O5.below T6; have Oc6 := O6.cell; clear Oc5; have G6 := G5.below T6; have Gc6 := G6.cell; clear Gc5; have S6 := S5.below T6; have Sc6 := S6.cell; clear Sc5; have X6 := X5.below T6; have Xc6 := X6.cell; clear Xc5; have x6 := x5.below T6; have y6 := y5.below T6; have u6 := u5.below T6; have z6 := z5.below T6; have v6 := v5.below T6; have R6 := below_then R5 T6; have yi0 : w6.setCell ⟨kY6, 0, none⟩ (.int .u8 0) = w6 := Y6.idle rfl; have yi1 : w6.setCell ⟨kY6, 1, none⟩ (.int .u32 0) = w6 := Y6.idle rfl; have yi2 : w6.setCell ⟨kY6, 2, none⟩ (.int .u32 0) = w6 := Y6.idle rfl; have yi3 : w6.setCell ⟨kY6, 3, none⟩ (.int .u16 0) = w6 := Y6.idle rfl; have yi4 : w6.setCell ⟨kY6, 4, none⟩ (.int .u16 0) = w6 := Y6.idle rfl)
      | (go_at_call 12; ((with_reducible refine (live05_any w6).mono ?_); rintro e w7 ⟨rfl, hB7⟩); have P7 := P6.below hB7; have Pc7 := P7.cell; clear Pc6; have O7 := O6.below hB7; have Oc7 := O7.cell; clear Oc6; have G7 := G6.below hB7; have Gc7 := G7.cell; clear Gc6; have S7 := S6.below hB7; have Sc7 := S7.cell; clear Sc6; have X7 := X6.below hB7; have Xc7 := X7.cell; clear Xc6; have Y7 := Y6.below hB7; have Yc7 := Y7.cell; clear Yc6; have x7 := x6.below hB7; have y7 := y6.below hB7; have u7 := u6.below hB7; have z7 := z6.below hB7; have v7 := v6.below hB7; have R7 := below_then R6 hB7))
    go_ret
    exact ⟨rfl, R7⟩

theorem tupleErrors_walk (w : World) (p : Pkt) (hp : p.Ok) (A1 : Option Addr) (n1 c1 : Nat) (A2 : Option Addr) (n2 c2 : Nat) (k1 : Bs w A1 n1 c1 p.opt) (k2 : Bs w A2 n2 c2 p.dat) (z1 : n1 ≤ 1048576) (z2 : n2 ≤ 1048576) (q : Pkt) (hq : q.Ok) (B1 : Option Addr) (m1 d1 : Nat) (B2 : Option Addr) (m2 d2 : Nat) (j1 : Bs w B1 m1 d1 q.opt) (j2 : Bs w B2 m2 d2 q.dat) (y1 : m1 ≤ 1048576) (y2 : m2 ≤ 1048576) (n : Int) (n0 : 0 ≤ n) (n1' : n ≤ 65535) :
    Calls Try.prog 9 #[(.agg #[.int .u8 (p).tos, .int .u16 (p).id, .bool (p).keep, .int .u8 (p).ttl, .int .u8 (p).proto, .int .u32 (p).src, .int .u32 (p).dst, .slice A1 n1 c1, .slice A2 n2 c2]), (.agg #[.int .u8 (q).tos, .int .u16 (q).id, .bool (q).keep, .int .u8 (q).ttl, .int .u8 (q).proto, .int .u32 (q).src, .int .u32 (q).dst, .slice B1 m1 d1, .slice B2 m2 d2]), .int .u16 n] w fun e w' => e = .returned (.bool true) ∧ Below w.heap.size w w' := by
  by_cases h1 : ofE p = 0
  case neg => exact tupleErrors_bad w p hp A1 n1 c1 A2 n2 c2 k1 k2 z2 q B1 m1 d1 B2 m2 d2 n (.inl h1)
  by_cases h2 : bdE p = 0
  case neg => exact tupleErrors_bad w p hp A1 n1 c1 A2 n2 c2 k1 k2 z2 q B1 m1 d1 B2 m2 d2 n (.inr (.inl ⟨h1, h2⟩))
  by_cases h3 : 60000 < (bdL p).length
  · exact tupleErrors_bad w p hp A1 n1 c1 A2 n2 c2 k1 k2 z2 q B1 m1 d1 B2 m2 d2 n (.inr (.inr (.inl ⟨h1, h2, h3⟩)))
  by_cases h4 : 40 < m1
  · exact tupleErrors_bad w p hp A1 n1 c1 A2 n2 c2 k1 k2 z2 q B1 m1 d1 B2 m2 d2 n (.inr (.inr (.inr (.inl ⟨h1, h2, h3, h4⟩))))
  by_cases h5 : m1 % 4 = 0
  case neg => exact tupleErrors_bad w p hp A1 n1 c1 A2 n2 c2 k1 k2 z2 q B1 m1 d1 B2 m2 d2 n (.inr (.inr (.inr (.inr ⟨h1, h2, h3, h4, h5⟩))))
  have h6 : n % 3 = 0 ∨ n % 3 = 1 ∨ n % 3 = 2 := by omega
  rcases h6 with h6 | h6 | h6
  · exact tupleErrors_good w p hp A1 n1 c1 A2 n2 c2 k1 k2 z2 q hq B1 m1 d1 B2 m2 d2 j1 n n0 n1' h1 h2 h3 h4 h5 0 3 h6 (.inl ⟨rfl, rfl⟩)
  · exact tupleErrors_good w p hp A1 n1 c1 A2 n2 c2 k1 k2 z2 q hq B1 m1 d1 B2 m2 d2 j1 n n0 n1' h1 h2 h3 h4 h5 1 11 h6 (.inr (.inl ⟨rfl, rfl⟩))
  · exact tupleErrors_good w p hp A1 n1 c1 A2 n2 c2 k1 k2 z2 q hq B1 m1 d1 B2 m2 d2 j1 n n0 n1' h1 h2 h3 h4 h5 2 12 h6 (.inr (.inr ⟨rfl, rfl⟩))
end Go.Proofs.Ythgoffbfgdgkpaa

namespace Go.Proofs.Ythgoffbfgdgkpaa
open Go.ChangeShapes Go.WideShapes Go.ChangeAt Go.RowKit
set_option linter.unusedVariables false

theorem own_knob : ownKnob Try.prog.godebug = none := by kernel_rfl
theorem laid_out : laidOutB Try.prog = true := by kernel_rfl
section
variable {H : Type} {enc : TypeId × Value → H} {P : Program} {w : World} {base : Nat} {held : Bool} {spare : Nat → Bool}
theorem open_bs {t e : TypeId} {fuel : Nat} {v : Value} {x : DataW H × List MemPlace} (ht : P.underlying t = some (.slice e)) (he : P.underlying e = some (.int .u8)) (hc : P.cellsOf e = 1)
    (h : DataW.trod enc P w base spare held fuel t [v] = some x) :
    ∃ A n c l, v = .slice A n c ∧ (n ≤ 200000000000000 → Bs w A n c l) ∧ ((x.1 = .nil ∧ n = 0) ∨ ∃ es sp, x.1 = .slice es sp ∧ es.length = n) := by
  rcases open_ints ht he hc h with ⟨hcs, rfl⟩ | ⟨a, len, cap, zs, hcs, _, hl, hm, hz, rfl, hcell, hwz⟩
  · simp only [List.cons.injEq, and_true] at hcs
    subst hcs
    exact ⟨none, 0, 0, [], rfl, fun _ => Bs.none_ w, .inl ⟨rfl, rfl⟩⟩
  · simp only [List.cons.injEq, and_true] at hcs
    subst hcs
    have hzl : len ≤ zs.length := by rw [hz]; split <;> omega
    have hlen : ((zs.take len).map ub).length = len := by simp; omega
    refine ⟨some a, len, cap, (zs.take len).map ub, rfl, fun hn => ⟨hlen, hl, hn, (fun h => by cases h), fun h0 => ?_⟩, .inr ⟨_, _, rfl, by simp [lits]; omega⟩⟩
    obtain ⟨b, off, spot⟩ := a
    have hc0 := hcell 0 (by omega)
    have hspot : spot = none := by simpa [Addr.add] using World.cell?_spot hc0
    subst hspot
    refine ⟨b, off, rfl, fun j hj => ?_⟩
    have h1 := hcell j (by omega)
    have ha : (⟨b, off, none⟩ : Addr).add j = ⟨b, off + j, none⟩ := by unfold Addr.add; split <;> simp_all
    rw [ha] at h1
    rw [h1]
    have hb : 0 ≤ zs.getD j 0 ∧ zs.getD j 0 ≤ 255 := by
      have hmem : zs.getD j 0 ∈ zs := by
        rw [List.getD_eq_getElem?_getD, List.getElem?_eq_getElem (by omega)]
        exact List.getElem_mem _
      simpa [Lit.wf, IntKind.min, IntKind.max, IntKind.signed, IntKind.bits] using hwz _ hmem
    have e : zs.getD j 0 = bt ((zs.take len).map ub) j := by
      have hj' : j < zs.length := by omega
      have e1 : zs.getD j 0 = zs[j] := by rw [List.getD_eq_getElem?_getD, List.getElem?_eq_getElem hj']; rfl
      have e2 : ((zs.take len).map ub).getD j 0 = ub zs[j] := by
        rw [List.getD_eq_getElem?_getD, List.getElem?_map, List.getElem?_take, if_pos hj, List.getElem?_eq_getElem hj']
        rfl
      unfold bt
      rw [e2, ub_val, e1]
      rw [e1] at hb
      omega
    rw [e]

theorem args_stay : ∀ {ts : List TypeId} {vs : List Value} {ds : List (DataW H)} {ps : List MemPlace} {W W' : World}, laidOutB P = true → ts.all (fun t => P.readableRec t && decide (t < P.types.size)) = true →
    DataW.TrodAll enc P W 0 (fun _ => true) true ts vs ds ps → Below W.heap.size W W' → DataW.TrodAll enc P W' 0 (fun b => decide (b < W.heap.size)) true ts vs ds ps
  | [], vs, ds, ps, W, W', _, _, h, _ => by
    obtain ⟨rfl, rfl, rfl⟩ := trodAll_nil h
    exact trodAll_mk0
  | t :: ts, vs, ds, ps, W, W', hl, hr, h, hb => by
    simp only [List.all_cons, Bool.and_eq_true, decide_eq_true_eq] at hr
    obtain ⟨v, vs', d, ds', p, q, rfl, rfl, rfl, h1, h2⟩ := trodAll_cons h
    have hlt : ∀ x ∈ p, x.block < W.heap.size := by obtain ⟨m, hm⟩ := h1; exact DataW.trod_lt m _ _ _ hm
    exact trodAll_cons_mk (Below.trod hl hr.1.1 hr.1.2 h1 hb hlt) (args_stay hl (by simpa using hr.2) h2 hb)
theorem law_post {f : Func} {s : ChangeSpec} {W W' : World} {args : Array Value} {ds : List (DataW H)} {before : List MemPlace} {tb : TypeId} (hb' : P.underlying tb = some .bool) (hres : f.resultTypes = #[tb]) (hl : laidOutB P = true)
    (hr : f.params.toList.all (fun t => P.readableRec t && decide (t < P.types.size)) = true) (hvars : s.vars = [])
    (hfn : s.fn H (ds ++ []) = { results := [.lit (.bool true)], args := ds }) (hW : DataW.Whole enc P f.params.toList s.vars false W args.toList ds [] before) (hb : Below W.heap.size W W') :
    s.post enc P f false true false false W args (.bool true) W' := by
  have hW2 := hW
  obtain ⟨p, q, hA, hV, rfl, hfz, hnd⟩ := hW
  rw [hvars] at hV
  obtain ⟨_, rfl⟩ := trodVars_none hV
  refine ⟨_, _, _, [], p, [], hW2, ?_, ?_, ?_, hb.frame _, fun h => by cases h⟩
  · rw [hfn, hres]
    exact trodAll_mk1 (shut_bool hb' _)
  · rw [hfn]
    exact args_stay hl hr hA hb
  · rw [hfn, hvars]
    rfl
end
end Go.Proofs.Ythgoffbfgdgkpaa

namespace Go.Proofs.Ythgoffbfgdgkpaa
open Go.ChangeShapes Go.WideShapes Go.ChangeAt Go.RowKit Go.Deep
set_option linter.unusedVariables false
set_option maxRecDepth 100000

section
variable {H : Type} {enc : TypeId × Value → H} {P : Program} {w : World} {base : Nat} {held : Bool} {spare : Nat → Bool}
theorem open_struct {r : Reach} {b0 : Nat} {t : TypeId} {fs : Array Field} {v : Value} {d : DataW H} {ps : List MemPlace} (hs : P.underlying t = some (.struct fs)) (hone : oneCellFields P fs = true)
    (hv : Value.okWide P w r b0 t v) (h : DataW.Trod enc P w base spare held t v d ps) :
    ∃ (cs : List Value) (xs : List (DataW H × List MemPlace)) (n : Nat), v = .agg cs.toArray ∧ cs.length = P.cellsOf t ∧ d = .agg (xs.map (·.1)) ∧ xs.length = fs.size ∧
      ∀ i f, fs[i]? = some f → DataW.trod enc P w base spare held n f.type ((cs.drop i).take 1) = xs[i]? := by
  obtain ⟨cs, rfl, hsz⟩ := okWide_struct hs hv
  obtain ⟨fuel, hf⟩ := h
  obtain ⟨xs, n, _, hx, hl, hxl, hi⟩ := DataW.trod_struct hs hf
  simp only [Prod.mk.injEq] at hx
  refine ⟨cs.toList, xs, n, by simp, by simpa using hsz, hx.1, hxl, fun i f hfi => ?_⟩
  have h1 := hi i f hfi
  obtain ⟨o, k⟩ := hone_of hone i f hfi
  simpa [Value.cells, o, k] using h1
theorem list9 {α : Type} {l : List α} (h : l.length = 9) : ∃ a b c d e f g i j, l = [a, b, c, d, e, f, g, i, j] := by
  match l, h with
  | [a, b, c, d, e, f, g, i, j], _ => exact ⟨a, b, c, d, e, f, g, i, j, rfl⟩
theorem trod_byte {t : TypeId} {n : Nat} {v : Value} {y : DataW H × List MemPlace} (ht : P.underlying t = some (.int .u8)) (h : DataW.trod enc P w base spare held n t [v] = some y) : ∃ a, v = .int .u8 a ∧ 0 ≤ a ∧ a ≤ 255 := by
  obtain ⟨a, e, -, hw⟩ := DataW.trod_int ht h
  injection e with e
  exact ⟨a, e, by simpa [Lit.wf, IntKind.min, IntKind.max, IntKind.signed, IntKind.bits] using hw⟩
theorem trod_u16 {t : TypeId} {n : Nat} {v : Value} {y : DataW H × List MemPlace} (ht : P.underlying t = some (.int .u16)) (h : DataW.trod enc P w base spare held n t [v] = some y) : ∃ a, v = .int .u16 a ∧ 0 ≤ a ∧ a ≤ 65535 := by
  obtain ⟨a, e, -, hw⟩ := DataW.trod_int ht h
  injection e with e
  exact ⟨a, e, by simpa [Lit.wf, IntKind.min, IntKind.max, IntKind.signed, IntKind.bits] using hw⟩
theorem trod_u32 {t : TypeId} {n : Nat} {v : Value} {y : DataW H × List MemPlace} (ht : P.underlying t = some (.int .u32)) (h : DataW.trod enc P w base spare held n t [v] = some y) : ∃ a, v = .int .u32 a ∧ 0 ≤ a ∧ a ≤ 4294967295 := by
  obtain ⟨a, e, -, hw⟩ := DataW.trod_int ht h
  injection e with e
  exact ⟨a, e, by simpa [Lit.wf, IntKind.min, IntKind.max, IntKind.signed, IntKind.bits] using hw⟩
theorem trod_yes {t : TypeId} {n : Nat} {v : Value} {y : DataW H × List MemPlace} (ht : P.underlying t = some .bool) (h : DataW.trod enc P w base spare held n t [v] = some y) : ∃ b, v = .bool b := by
  obtain ⟨b, e, -⟩ := DataW.trod_bool ht h
  injection e with e
  exact ⟨b, e⟩
end
section
variable {H : Type} {enc : TypeId × Value → H} {w : World} {base : Nat} {held : Bool} {spare : Nat → Bool}
end
end Go.Proofs.Ythgoffbfgdgkpaa

namespace Go.Proofs.Ythgoffbfgdgkpaa.bulks

theorem one_le {H : Type} (d : DataW H) : 1 ≤ Rows.uptoBulk d := by
  cases d with
  | lit l => cases l <;> simp [Rows.uptoBulk]
  | nil => simp [Rows.uptoBulk]
  | ptr d => simp [Rows.uptoBulk]
  | slice elems spare => simp [Rows.uptoBulk]
  | agg parts => simp [Rows.uptoBulk]
  | iface t d => simp [Rows.uptoBulk]
  | map entries => simp [Rows.uptoBulk]
  | held h => simp [Rows.uptoBulk]

theorem part_le {H : Type} {d : DataW H} {l : List (DataW H)} (h : d ∈ l) : Rows.uptoBulk d ≤ Rows.uptoBulkAll l := by
  induction l with
  | nil => cases h
  | cons x r ih =>
    simp only [Rows.uptoBulkAll]
    cases List.mem_cons.1 h with
    | inl e => subst e; omega
    | inr e => have := ih e; omega

theorem length_le {H : Type} (l : List (DataW H)) : l.length ≤ Rows.uptoBulkAll l := by
  induction l with
  | nil => simp [Rows.uptoBulkAll]
  | cons x r ih => have := one_le x; simp only [Rows.uptoBulkAll, List.length_cons]; omega

theorem slice_le {H : Type} (elems spare : List (DataW H)) : elems.length + spare.length + 1 ≤ Rows.uptoBulk (.slice elems spare) := by
  have h1 := length_le elems
  have h2 := length_le spare
  simp only [Rows.uptoBulk]
  omega
theorem bound {H : Type} {l : List (DataW H)} (hk : Rows.uptoSmall H l = true) : Rows.uptoBulkAll l ≤ 1048576 := by
  simpa [Rows.uptoSmall] using hk

end Go.Proofs.Ythgoffbfgdgkpaa.bulks

namespace Go.Proofs.Ythgoffbfgdgkpaa
open Go.ChangeShapes Go.WideShapes Go.ChangeAt Go.RowKit Go.Deep
set_option linter.unusedVariables false
set_option maxRecDepth 100000

section
variable {H : Type} {enc : TypeId × Value → H} {P : Program} {w : World} {base : Nat} {held : Bool} {spare : Nat → Bool}
theorem trod_bytesU {t e : TypeId} {n N : Nat} {v : Value} {y : DataW H × List MemPlace} (ht : P.underlying t = some (.slice e)) (he : P.underlying e = some (.int .u8)) (hc : P.cellsOf e = 1) (hN : N ≤ 1048576)
    (hb : Rows.uptoBulk y.1 ≤ N) (h : DataW.trod enc P w base spare held n t [v] = some y) : ∃ A n c l, v = .slice A n c ∧ Bs w A n c l ∧ n ≤ N := by
  obtain ⟨A, n, c, l, hv, hbs, hd⟩ := open_bs ht he hc h
  have hn : n ≤ N := by
    rcases hd with ⟨_, h⟩ | ⟨es, sp, hx, hl⟩
    · omega
    · rw [hx] at hb
      have := bulks.slice_le es sp
      omega
  exact ⟨A, n, c, l, hv, hbs (by omega), hn⟩
end
section
variable {H : Type} {enc : TypeId × Value → H} {w : World} {base : Nat} {held : Bool} {spare : Nat → Bool}
theorem open_pktU {r : Reach} {b0 : Nat} {v : Value} {d : DataW H} {ps : List MemPlace} (hval : Value.okWide Try.prog w r b0 26 v) (hd : DataW.Trod enc Try.prog w base spare held 26 v d ps)
    (hb : Rows.uptoBulk d ≤ 1048576) :
    ∃ (p : Pkt) (A1 : Option Addr) (n1 c1 : Nat) (A2 : Option Addr) (n2 c2 : Nat), v = (.agg #[.int .u8 (p).tos, .int .u16 (p).id, .bool (p).keep, .int .u8 (p).ttl, .int .u8 (p).proto, .int .u32 (p).src, .int .u32 (p).dst, .slice A1 n1 c1, .slice A2 n2 c2]) ∧ p.Ok ∧ Bs w A1 n1 c1 p.opt ∧ Bs w A2 n2 c2 p.dat ∧ n1 ≤ 1048576 ∧ n2 ≤ 1048576 := by
  have hu := Try.underlying26
  obtain ⟨cs, xs, n, rfl, hcl, rfl, hxl, hi⟩ := open_struct hu (by kernel_rfl) hval hd
  rw [show (Try.prog.cellsOf 26) = 9 from by kernel_rfl] at hcl
  obtain ⟨v0, v1, v2, v3, v4, v5, v6, v7, v8, rfl⟩ := list9 hcl
  obtain ⟨y0, y1, y2, y3, y4, y5, y6, y7, y8, rfl⟩ := list9 (by simpa using hxl)
  obtain ⟨a0, rfl, b0l, b0h⟩ := trod_byte (t := 5) Try.underlying5 (by simpa using hi 0 _ rfl)
  obtain ⟨a1, rfl, b1l, b1h⟩ := trod_u16 (t := 22) Try.underlying22 (by simpa using hi 1 _ rfl)
  obtain ⟨a2, rfl⟩ := trod_yes (t := 4) Try.underlying4 (by simpa using hi 2 _ rfl)
  obtain ⟨a3, rfl, b3l, b3h⟩ := trod_byte (t := 5) Try.underlying5 (by simpa using hi 3 _ rfl)
  obtain ⟨a4, rfl, b4l, b4h⟩ := trod_byte (t := 5) Try.underlying5 (by simpa using hi 4 _ rfl)
  obtain ⟨a5, rfl, b5l, b5h⟩ := trod_u32 (t := 23) Try.underlying23 (by simpa using hi 5 _ rfl)
  obtain ⟨a6, rfl, b6l, b6h⟩ := trod_u32 (t := 23) Try.underlying23 (by simpa using hi 6 _ rfl)
  simp only [Rows.uptoBulk] at hb
  have m7 := bulks.part_le (l := [y0, y1, y2, y3, y4, y5, y6, y7, y8].map (·.1)) (d := y7.1) (by simp)
  have m8 := bulks.part_le (l := [y0, y1, y2, y3, y4, y5, y6, y7, y8].map (·.1)) (d := y8.1) (by simp)
  obtain ⟨A1, n1, c1, l1, rfl, k1, z1⟩ := trod_bytesU (t := 24) Try.underlying24 Try.underlying5 (by kernel_rfl) (Nat.le_refl _) (y := y7) (by omega) (by simpa using hi 7 _ rfl)
  obtain ⟨A2, n2, c2, l2, rfl, k2, z2⟩ := trod_bytesU (t := 24) Try.underlying24 Try.underlying5 (by kernel_rfl) (Nat.le_refl _) (y := y8) (by omega) (by simpa using hi 8 _ rfl)
  exact ⟨⟨a0, a1, a2, a3, a4, a5, a6, l1, l2⟩, A1, n1, c1, A2, n2, c2, rfl, ⟨⟨b0l, b0h⟩, ⟨b1l, b1h⟩, ⟨b3l, b3h⟩, ⟨b4l, b4h⟩, ⟨b5l, b5h⟩, ⟨b6l, b6h⟩⟩, k1, k2, z1, z2⟩
end
end Go.Proofs.Ythgoffbfgdgkpaa


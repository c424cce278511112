/- CtrlGre, CtrlIcmp, CtrlOthers. -/
import Derived.Test.YtogbncpchmnbdaaLive4
import Derived.Test.YtogbncpchmnbdaaGre6
import Derived.Test.YtogbncpchmnbdaaGre7
import Derived.Test.YtogbncpchmnbdaaMathC
import Derived.Test.YtogbncpchmnbdaaSto
namespace Go.Proofs.Ytogbncpchmnbdaa
open Go.RowKit
set_option linter.unusedVariables false
set_option linter.unusedSimpArgs false
set_option maxHeartbeats 4000000
set_option maxRecDepth 100000

theorem rgsame_self (f : Frm) (A1 : Option Addr) (n1 c1 : Nat) (B1 : Option Addr) (m1 d1 : Nat) (w : World) (k1 : Bs w A1 n1 c1 f.dat) (j1 : Bs w B1 m1 d1 f.dat) :
    Calls Try.prog 23 #[(.agg #[.int .u16 (f).call, .bool (f).hs, .bool (f).ha, .int .u32 (f).seq, .int .u32 (f).ack, .slice A1 n1 c1]), (.agg #[.int .u16 (f).call, .bool (f).hs, .bool (f).ha, .int .u32 (f).seq, .int .u32 (f).ack, .slice B1 m1 d1])] w fun e w' => e = .returned (.bool true) ∧ Below w.heap.size w w' := by
  have h := rgsame_any f f A1 n1 c1 B1 m1 d1 w k1 j1
  rw [sameF_self] at h
  exact h
theorem rmsame_self (f : Msg) (A1 : Option Addr) (n1 c1 : Nat) (B1 : Option Addr) (m1 d1 : Nat) (w : World) (k1 : Bs w A1 n1 c1 f.dat) (j1 : Bs w B1 m1 d1 f.dat) :
    Calls Try.prog 21 #[(.agg #[.int .u8 (f).ty, .int .u8 (f).code, .int .u32 (f).rest, .slice A1 n1 c1]), (.agg #[.int .u8 (f).ty, .int .u8 (f).code, .int .u32 (f).rest, .slice B1 m1 d1])] w fun e w' => e = .returned (.bool true) ∧ Below w.heap.size w w' := by
  have h := rmsame_any f f A1 n1 c1 B1 m1 d1 w k1 j1
  rw [sameM_self] at h
  exact h
theorem ctrlGre_walk (w : World) (p : Pkt) (hp : p.Ok) (A1 : Option Addr) (n1 c1 : Nat) (A2 : Option Addr) (n2 c2 : Nat) (k1 : Bs w A1 n1 c1 p.opt) (k2 : Bs w A2 n2 c2 p.dat) :
    Calls Try.prog 9 #[(.agg #[.int .u8 (p).tos, .int .u16 (p).id, .bool (p).keep, .int .u8 (p).ttl, .int .u8 (p).proto, .int .u32 (p).src, .int .u32 (p).dst, .slice A1 n1 c1, .slice A2 n2 c2])] w fun e w' => e = .returned (.bool true) ∧ Below w.heap.size w w' := by
  have ca := fun W k2 => gre_any p A1 n1 c1 A2 n2 c2 W k2
  have cb := fun W k2 => rgre_any p A1 n1 c1 A2 n2 c2 W k2
  obtain ⟨F, hF⟩ : ∃ F, geF p = F := ⟨_, rfl⟩
  obtain ⟨E, hE⟩ : ∃ E, geE p = E := ⟨_, rfl⟩
  simp only [hF, hE] at ca cb
  clear hF hE
  obtain ⟨k, hk⟩ : ∃ k : Nat, w.heap.size = k := ⟨_, rfl⟩
  obtain ⟨w1, hw1⟩ : ∃ W, (w.alloc (.cells #[.int .u8 (p).tos, .int .u16 (p).id, .bool (p).keep, .int .u8 (p).ttl, .int .u8 (p).proto, .int .u32 (p).src, .int .u32 (p).dst, .slice A1 n1 c1, .slice A2 n2 c2] 26)) = W := ⟨_, rfl⟩
  have Q1 : Blk w1 k #[.int .u8 (p).tos, .int .u16 (p).id, .bool (p).keep, .int .u8 (p).ttl, .int .u8 (p).proto, .int .u32 (p).src, .int .u32 (p).dst, .slice A1 n1 c1, .slice A2 n2 c2] 26 := by rw [← hw1]; exact (blk_new _ _ _ k (by simp [hk]))
  have R1 : Below w.heap.size w w1 := by rw [← hw1]; (repeat (first | with_reducible exact Below.refl _ _ | with_reducible refine below_drew ?_ | with_reducible refine below_drewN ?_ _ | with_reducible refine below_alloc ?_ (Nat.le_refl _) _ | with_reducible refine Below.setCell ?_ (by first | exact Nat.le_refl _ | (simp only []; omega)) _ | with_reducible assumption))
  have Qc1 := Q1.cell
  have Ql1 := Q1.lt
  have x1 := (k2).below R1
  clear k1 k2
  go_enter Try.func9, Try.ntmps9
  go_wp2_with (first
    | (go_at_call 32; go_loud ((with_reducible refine (ca _ x1).mono ?_); rintro e u2 hpost; (obtain ⟨B2, m2, d2, rfl, O2, hB2⟩ := hpost.out); clear hpost; (obtain ⟨w2, hw2⟩ : ∃ W, u2.alloc (.cells #[.int .u16 (F).call, .bool (F).hs, .bool (F).ha, .int .u32 (F).seq, .int .u32 (F).ack, .slice B2 m2 d2] 30) = W := ⟨_, rfl⟩); have V2 : Below u2.heap.size u2 w2 := (by rw [← hw2]; (repeat (first | with_reducible exact Below.refl _ _ | with_reducible refine below_drew ?_ | with_reducible refine below_drewN ?_ _ | with_reducible refine below_alloc ?_ (Nat.le_refl _) _ | with_reducible refine Below.setCell ?_ (by first | exact Nat.le_refl _ | (simp only []; omega)) _ | with_reducible assumption))); (obtain ⟨kS2, hkS2⟩ : ∃ k : Nat, u2.heap.size = k := ⟨_, rfl⟩); have S2 : Blk w2 kS2 #[.int .u16 (F).call, .bool (F).hs, .bool (F).ha, .int .u32 (F).seq, .int .u32 (F).ack, .slice B2 m2 d2] 30 := (by rw [← hw2]; exact blk_new u2 _ _ _ hkS2); have Sc2 := S2.cell; have T2 := below_then hB2 V2; have r2 := (O2.bs).below V2; have Q2 := Q1.below T2; have Qc2 := Q2.cell; clear Qc1; have x2 := x1.below T2; have R2 := below_then R1 T2))
    | (go_at_call 33; go_loud ((with_reducible refine (cb _ x2).mono ?_); rintro e u3 hpost; (obtain ⟨B3, m3, d3, rfl, O3, hB3⟩ := hpost.out); clear hpost; (obtain ⟨w3, hw3⟩ : ∃ W, u3.alloc (.cells #[.int .u16 (F).call, .bool (F).hs, .bool (F).ha, .int .u32 (F).seq, .int .u32 (F).ack, .slice B3 m3 d3] 30) = W := ⟨_, rfl⟩); have V3 : Below u3.heap.size u3 w3 := (by rw [← hw3]; (repeat (first | with_reducible exact Below.refl _ _ | with_reducible refine below_drew ?_ | with_reducible refine below_drewN ?_ _ | with_reducible refine below_alloc ?_ (Nat.le_refl _) _ | with_reducible refine Below.setCell ?_ (by first | exact Nat.le_refl _ | (simp only []; omega)) _ | with_reducible assumption))); (obtain ⟨kU3, hkU3⟩ : ∃ k : Nat, u3.heap.size = k := ⟨_, rfl⟩); have U3 : Blk w3 kU3 #[.int .u16 (F).call, .bool (F).hs, .bool (F).ha, .int .u32 (F).seq, .int .u32 (F).ack, .slice B3 m3 d3] 30 := (by rw [← hw3]; exact blk_new u3 _ _ _ hkU3); have Uc3 := U3.cell; have T3 := below_then hB3 V3; have t3 := (O3.bs).below V3; have Q3 := Q2.below T3; have Qc3 := Q3.cell; clear Qc2; have S3 := S2.below T3; have Sc3 := S3.cell; clear Sc2; have x3 := x2.below T3; have r3 := r2.below T3; have R3 := below_then R2 T3))
    | (go_at_call 18; go_loud ((with_reducible refine (live04_any _).mono ?_); rintro e w4 ⟨rfl, hB4⟩; have Q4 := Q3.below hB4; have Qc4 := Q4.cell; clear Qc3; have S4 := S3.below hB4; have Sc4 := S4.cell; clear Sc3; have U4 := U3.below hB4; have Uc4 := U4.cell; clear Uc3; have x4 := x3.below hB4; have r4 := r3.below hB4; have t4 := t3.below hB4; have R4 := below_then R3 hB4))
    | (go_at_call 23; go_loud ((with_reducible refine (rgsame_self F _ _ _ _ _ _ _ r4 t4).mono ?_); rintro e w5 ⟨rfl, hB5⟩; have Q5 := Q4.below hB5; have Qc5 := Q5.cell; clear Qc4; have S5 := S4.below hB5; have Sc5 := S5.cell; clear Sc4; have U5 := U4.below hB5; have Uc5 := U5.cell; clear Uc4; have x5 := x4.below hB5; have r5 := r4.below hB5; have t5 := t4.below hB5; have R5 := below_then R4 hB5)))
  go_ret
  exact ⟨rfl, R5⟩
theorem ctrlIcmp_walk (w : World) (p : Pkt) (hp : p.Ok) (A1 : Option Addr) (n1 c1 : Nat) (A2 : Option Addr) (n2 c2 : Nat) (k1 : Bs w A1 n1 c1 p.opt) (k2 : Bs w A2 n2 c2 p.dat) (hn1 : n1 ≤ 1048576) (hn2 : n2 ≤ 1048576) :
    Calls Try.prog 7 #[(.agg #[.int .u8 (p).tos, .int .u16 (p).id, .bool (p).keep, .int .u8 (p).ttl, .int .u8 (p).proto, .int .u32 (p).src, .int .u32 (p).dst, .slice A1 n1 c1, .slice A2 n2 c2])] w fun e w' => e = .returned (.bool true) ∧ Below w.heap.size w w' := by
  have ca := fun W k2 => icmp_any p A1 n1 c1 A2 n2 c2 W k2
  have cb := fun W k2 => ricmp_any p A1 n1 c1 A2 n2 c2 W k2 (by omega)
  obtain ⟨F, hF⟩ : ∃ F, icM p = F := ⟨_, rfl⟩
  obtain ⟨E, hE⟩ : ∃ E, icE p = E := ⟨_, rfl⟩
  simp only [hF, hE] at ca cb
  clear hF hE
  obtain ⟨k, hk⟩ : ∃ k : Nat, w.heap.size = k := ⟨_, rfl⟩
  obtain ⟨w1, hw1⟩ : ∃ W, (w.alloc (.cells #[.int .u8 (p).tos, .int .u16 (p).id, .bool (p).keep, .int .u8 (p).ttl, .int .u8 (p).proto, .int .u32 (p).src, .int .u32 (p).dst, .slice A1 n1 c1, .slice A2 n2 c2] 26)) = W := ⟨_, rfl⟩
  have Q1 : Blk w1 k #[.int .u8 (p).tos, .int .u16 (p).id, .bool (p).keep, .int .u8 (p).ttl, .int .u8 (p).proto, .int .u32 (p).src, .int .u32 (p).dst, .slice A1 n1 c1, .slice A2 n2 c2] 26 := by rw [← hw1]; exact (blk_new _ _ _ k (by simp [hk]))
  have R1 : Below w.heap.size w w1 := by rw [← hw1]; (repeat (first | with_reducible exact Below.refl _ _ | with_reducible refine below_drew ?_ | with_reducible refine below_drewN ?_ _ | with_reducible refine below_alloc ?_ (Nat.le_refl _) _ | with_reducible refine Below.setCell ?_ (by first | exact Nat.le_refl _ | (simp only []; omega)) _ | with_reducible assumption))
  have Qc1 := Q1.cell
  have Ql1 := Q1.lt
  have x1 := (k2).below R1
  clear k1 k2
  go_enter Try.func7, Try.ntmps7
  go_wp2_with (first
    | (go_at_call 30; go_loud ((with_reducible refine (ca _ x1).mono ?_); rintro e u2 hpost; (obtain ⟨B2, m2, d2, rfl, O2, hB2⟩ := hpost.out); clear hpost; (obtain ⟨w2, hw2⟩ : ∃ W, u2.alloc (.cells #[.int .u8 (F).ty, .int .u8 (F).code, .int .u32 (F).rest, .slice B2 m2 d2] 28) = W := ⟨_, rfl⟩); have V2 : Below u2.heap.size u2 w2 := (by rw [← hw2]; (repeat (first | with_reducible exact Below.refl _ _ | with_reducible refine below_drew ?_ | with_reducible refine below_drewN ?_ _ | with_reducible refine below_alloc ?_ (Nat.le_refl _) _ | with_reducible refine Below.setCell ?_ (by first | exact Nat.le_refl _ | (simp only []; omega)) _ | with_reducible assumption))); (obtain ⟨kS2, hkS2⟩ : ∃ k : Nat, u2.heap.size = k := ⟨_, rfl⟩); have S2 : Blk w2 kS2 #[.int .u8 (F).ty, .int .u8 (F).code, .int .u32 (F).rest, .slice B2 m2 d2] 28 := (by rw [← hw2]; exact blk_new u2 _ _ _ hkS2); have Sc2 := S2.cell; have T2 := below_then hB2 V2; have r2 := (O2.bs).below V2; have Q2 := Q1.below T2; have Qc2 := Q2.cell; clear Qc1; have x2 := x1.below T2; have R2 := below_then R1 T2))
    | (go_at_call 31; go_loud ((with_reducible refine (cb _ x2).mono ?_); rintro e u3 hpost; (obtain ⟨B3, m3, d3, rfl, O3, hB3⟩ := hpost.out); clear hpost; (obtain ⟨w3, hw3⟩ : ∃ W, u3.alloc (.cells #[.int .u8 (F).ty, .int .u8 (F).code, .int .u32 (F).rest, .slice B3 m3 d3] 28) = W := ⟨_, rfl⟩); have V3 : Below u3.heap.size u3 w3 := (by rw [← hw3]; (repeat (first | with_reducible exact Below.refl _ _ | with_reducible refine below_drew ?_ | with_reducible refine below_drewN ?_ _ | with_reducible refine below_alloc ?_ (Nat.le_refl _) _ | with_reducible refine Below.setCell ?_ (by first | exact Nat.le_refl _ | (simp only []; omega)) _ | with_reducible assumption))); (obtain ⟨kU3, hkU3⟩ : ∃ k : Nat, u3.heap.size = k := ⟨_, rfl⟩); have U3 : Blk w3 kU3 #[.int .u8 (F).ty, .int .u8 (F).code, .int .u32 (F).rest, .slice B3 m3 d3] 28 := (by rw [← hw3]; exact blk_new u3 _ _ _ hkU3); have Uc3 := U3.cell; have T3 := below_then hB3 V3; have t3 := (O3.bs).below V3; have Q3 := Q2.below T3; have Qc3 := Q3.cell; clear Qc2; have S3 := S2.below T3; have Sc3 := S3.cell; clear Sc2; have x3 := x2.below T3; have r3 := r2.below T3; have R3 := below_then R2 T3))
    | (go_at_call 18; go_loud ((with_reducible refine (live04_any _).mono ?_); rintro e w4 ⟨rfl, hB4⟩; have Q4 := Q3.below hB4; have Qc4 := Q4.cell; clear Qc3; have S4 := S3.below hB4; have Sc4 := S4.cell; clear Sc3; have U4 := U3.below hB4; have Uc4 := U4.cell; clear Uc3; have x4 := x3.below hB4; have r4 := r3.below hB4; have t4 := t3.below hB4; have R4 := below_then R3 hB4))
    | (go_at_call 21; go_loud ((with_reducible refine (rmsame_self F _ _ _ _ _ _ _ r4 t4).mono ?_); rintro e w5 ⟨rfl, hB5⟩; have Q5 := Q4.below hB5; have Qc5 := Q5.cell; clear Qc4; have S5 := S4.below hB5; have Sc5 := S5.cell; clear Sc4; have U5 := U4.below hB5; have Uc5 := U5.cell; clear Uc4; have x5 := x4.below hB5; have r5 := r4.below hB5; have t5 := t4.below hB5; have R5 := below_then R4 hB5)))
  go_ret
  exact ⟨rfl, R5⟩
theorem ctrlOthers_walk (w : World) (p : Pkt) (hp : p.Ok) (A1 : Option Addr) (n1 c1 : Nat) (A2 : Option Addr) (n2 c2 : Nat) (k1 : Bs w A1 n1 c1 p.opt) (k2 : Bs w A2 n2 c2 p.dat)
    (q : Pkt) (hq : q.Ok) (Bq : Option Addr) (mq dq : Nat) (Br : Option Addr) (mr dr : Nat) (j1 : Bs w Bq mq dq q.opt) (j2 : Bs w Br mr dr q.dat) :
    Calls Try.prog 12 #[(.agg #[.int .u8 (p).tos, .int .u16 (p).id, .bool (p).keep, .int .u8 (p).ttl, .int .u8 (p).proto, .int .u32 (p).src, .int .u32 (p).dst, .slice A1 n1 c1, .slice A2 n2 c2]), (.agg #[.int .u8 (q).tos, .int .u16 (q).id, .bool (q).keep, .int .u8 (q).ttl, .int .u8 (q).proto, .int .u32 (q).src, .int .u32 (q).dst, .slice Bq mq dq, .slice Br mr dr])] w fun e w' => e = .returned (.bool true) ∧ Below w.heap.size w w' := by
  have ca := fun W k2 => icmp_any p A1 n1 c1 A2 n2 c2 W k2
  have cb := fun W k2 => gre_any p A1 n1 c1 A2 n2 c2 W k2
  have cc : ∀ W, Bs W A2 n2 c2 p.dat → Calls Try.prog 30 #[.agg #[.int .u8 q.tos, .int .u16 q.id, .bool q.keep, .int .u8 q.ttl, .int .u8 p.proto, .int .u32 q.src, .int .u32 q.dst, .slice Bq mq dq, .slice A2 n2 c2]] W (MsPost W (icM p) (icE p)) := fun W k => icmp_any { q with proto := p.proto, dat := p.dat } Bq mq dq A2 n2 c2 W k
  have cd : ∀ W, Bs W A2 n2 c2 p.dat → Calls Try.prog 32 #[.agg #[.int .u8 q.tos, .int .u16 q.id, .bool q.keep, .int .u8 q.ttl, .int .u8 p.proto, .int .u32 q.src, .int .u32 q.dst, .slice Bq mq dq, .slice A2 n2 c2]] W (FrPost W (geF p) (geE p)) := fun W k => gre_any { q with proto := p.proto, dat := p.dat } Bq mq dq A2 n2 c2 W k
  obtain ⟨M, hM⟩ : ∃ F, icM p = F := ⟨_, rfl⟩
  obtain ⟨F, hF⟩ : ∃ F, geF p = F := ⟨_, rfl⟩
  obtain ⟨E, hE⟩ : ∃ E, icE p = E := ⟨_, rfl⟩
  obtain ⟨G, hG⟩ : ∃ E, geE p = E := ⟨_, rfl⟩
  have t1 : (p.proto == 1) = true ∨ ((p.proto == 1) = false ∧ (E == 12) = true) := by
    by_cases h : p.proto = 1
    · exact .inl (by simp [h])
    · refine .inr ⟨by simpa using h, ?_⟩
      rw [← hE]; unfold icE; rw [if_pos h]; rfl
  have t2 : (p.proto == 47) = true ∨ ((p.proto == 47) = false ∧ (G == 12) = true) := by
    by_cases h : p.proto = 47
    · exact .inl (by simp [h])
    · refine .inr ⟨by simpa using h, ?_⟩
      rw [← hG]; unfold geE; rw [if_pos h]; rfl
  simp only [hM, hF, hE, hG] at ca cb cc cd
  clear hM hF hE hG
  obtain ⟨k, hk⟩ : ∃ k : Nat, w.heap.size = k := ⟨_, rfl⟩
  obtain ⟨w1, hw1⟩ : ∃ W, ((w.alloc (.cells #[.int .u8 (p).tos, .int .u16 (p).id, .bool (p).keep, .int .u8 (p).ttl, .int .u8 (p).proto, .int .u32 (p).src, .int .u32 (p).dst, .slice A1 n1 c1, .slice A2 n2 c2] 26)).alloc (.cells #[.int .u8 (q).tos, .int .u16 (q).id, .bool (q).keep, .int .u8 (q).ttl, .int .u8 (q).proto, .int .u32 (q).src, .int .u32 (q).dst, .slice Bq mq dq, .slice Br mr dr] 26)) = W := ⟨_, rfl⟩
  have P1 : Blk w1 k #[.int .u8 (p).tos, .int .u16 (p).id, .bool (p).keep, .int .u8 (p).ttl, .int .u8 (p).proto, .int .u32 (p).src, .int .u32 (p).dst, .slice A1 n1 c1, .slice A2 n2 c2] 26 := by rw [← hw1]; exact ((blk_new _ _ _ k (by simp [hk])).alloc _)
  have Q1 : Blk w1 (k + 1) #[.int .u8 (q).tos, .int .u16 (q).id, .bool (q).keep, .int .u8 (q).ttl, .int .u8 (q).proto, .int .u32 (q).src, .int .u32 (q).dst, .slice Bq mq dq, .slice Br mr dr] 26 := by rw [← hw1]; exact (blk_new _ _ _ (k + 1) (by simp [hk]))
  have R1 : Below w.heap.size w w1 := by rw [← hw1]; (repeat (first | with_reducible exact Below.refl _ _ | with_reducible refine below_drew ?_ | with_reducible refine below_drewN ?_ _ | with_reducible refine below_alloc ?_ (Nat.le_refl _) _ | with_reducible refine Below.setCell ?_ (by first | exact Nat.le_refl _ | (simp only []; omega)) _ | with_reducible assumption))
  have Pc1 := P1.cell
  have Qc1 := Q1.cell
  have Pl1 := P1.lt
  have Ql1 := Q1.lt
  have x1 := (k2).below R1
  clear k1 k2 j1 j2
  go_enter Try.func12, Try.ntmps12
  go_wp2_with (first
    | (go_at_call 30; go_loud ((with_reducible refine (ca _ x1).mono ?_); rintro e u2 hpost; (obtain ⟨B2, m2, d2, rfl, O2, hB2⟩ := hpost.out); clear hpost; (obtain ⟨w2, hw2⟩ : ∃ W, u2.alloc (.cells #[.int .u8 (M).ty, .int .u8 (M).code, .int .u32 (M).rest, .slice B2 m2 d2] 28) = W := ⟨_, rfl⟩); have V2 : Below u2.heap.size u2 w2 := (by rw [← hw2]; (repeat (first | with_reducible exact Below.refl _ _ | with_reducible refine below_drew ?_ | with_reducible refine below_drewN ?_ _ | with_reducible refine below_alloc ?_ (Nat.le_refl _) _ | with_reducible refine Below.setCell ?_ (by first | exact Nat.le_refl _ | (simp only []; omega)) _ | with_reducible assumption))); (obtain ⟨kS2, hkS2⟩ : ∃ k : Nat, u2.heap.size = k := ⟨_, rfl⟩); have S2 : Blk w2 kS2 #[.int .u8 (M).ty, .int .u8 (M).code, .int .u32 (M).rest, .slice B2 m2 d2] 28 := (by rw [← hw2]; exact blk_new u2 _ _ _ hkS2); have Sc2 := S2.cell; have T2 := below_then hB2 V2; have r2 := (O2.bs).below V2; have P2 := P1.below T2; have Pc2 := P2.cell; clear Pc1; have Q2 := Q1.below T2; have Qc2 := Q2.cell; clear Qc1; have x2 := x1.below T2; have R2 := below_then R1 T2))
    | (go_at_call 32; go_loud ((with_reducible refine (cb _ x2).mono ?_); rintro e u3 hpost; (obtain ⟨B3, m3, d3, rfl, O3, hB3⟩ := hpost.out); clear hpost; (obtain ⟨w3, hw3⟩ : ∃ W, u3.alloc (.cells #[.int .u16 (F).call, .bool (F).hs, .bool (F).ha, .int .u32 (F).seq, .int .u32 (F).ack, .slice B3 m3 d3] 30) = W := ⟨_, rfl⟩); have V3 : Below u3.heap.size u3 w3 := (by rw [← hw3]; (repeat (first | with_reducible exact Below.refl _ _ | with_reducible refine below_drew ?_ | with_reducible refine below_drewN ?_ _ | with_reducible refine below_alloc ?_ (Nat.le_refl _) _ | with_reducible refine Below.setCell ?_ (by first | exact Nat.le_refl _ | (simp only []; omega)) _ | with_reducible assumption))); (obtain ⟨kU3, hkU3⟩ : ∃ k : Nat, u3.heap.size = k := ⟨_, rfl⟩); have U3 : Blk w3 kU3 #[.int .u16 (F).call, .bool (F).hs, .bool (F).ha, .int .u32 (F).seq, .int .u32 (F).ack, .slice B3 m3 d3] 30 := (by rw [← hw3]; exact blk_new u3 _ _ _ hkU3); have Uc3 := U3.cell; have T3 := below_then hB3 V3; have t3 := (O3.bs).below V3; have P3 := P2.below T3; have Pc3 := P3.cell; clear Pc2; have Q3 := Q2.below T3; have Qc3 := Q3.cell; clear Qc2; have S3 := S2.below T3; have Sc3 := S3.cell; clear Sc2; have x3 := x2.below T3; have r3 := r2.below T3; have R3 := below_then R2 T3; (obtain ⟨v, hv⟩ : ∃ W, w3.alloc (.cells #[.int .u8 (q).tos, .int .u16 (q).id, .bool (q).keep, .int .u8 (q).ttl, .int .u8 (q).proto, .int .u32 (q).src, .int .u32 (q).dst, .slice Bq mq dq, .slice Br mr dr] 26) = W := ⟨_, rfl⟩))))
  have Vv : Below w3.heap.size w3 v := by rw [← hv]; (repeat (first | with_reducible exact Below.refl _ _ | with_reducible refine below_drew ?_ | with_reducible refine below_drewN ?_ _ | with_reducible refine below_alloc ?_ (Nat.le_refl _) _ | with_reducible refine Below.setCell ?_ (by first | exact Nat.le_refl _ | (simp only []; omega)) _ | with_reducible assumption))
  obtain ⟨y, hy⟩ : ∃ y : Nat, w3.heap.size = y := ⟨_, rfl⟩
  have Yv : Blk v y #[.int .u8 (q).tos, .int .u16 (q).id, .bool (q).keep, .int .u8 (q).ttl, .int .u8 (q).proto, .int .u32 (q).src, .int .u32 (q).dst, .slice Bq mq dq, .slice Br mr dr] 26 := by rw [← hv]; exact blk_new w3 _ _ _ hy
  have Pv := P3.below Vv
  have pyl := P3.lt
  have Pv2 := Pv.far ⟨y, 4, none⟩ (by show y ≠ k; omega) (.int .u8 p.proto)
  have Yv2 := Yv.set_ 4 (.int .u8 p.proto)
  simp only [List.setIfInBounds_toArray, List.set_cons_zero, List.set_cons_succ] at Yv2
  obtain ⟨v2, hv2, Sv⟩ : ∃ wf, ((v.setCell ⟨y, 4, none⟩ (.int .u8 p.proto)).setCell ⟨y, 8, none⟩ (.slice A2 n2 c2)).drew = wf ∧ Sto v y wf #[.int .u8 q.tos, .int .u16 q.id, .bool q.keep, .int .u8 q.ttl, .int .u8 p.proto, .int .u32 q.src, .int .u32 q.dst, .slice Bq mq dq, .slice A2 n2 c2] 26 := ⟨_, rfl, by
    have := (((Sto.nil Yv).set 4 (.int .u8 p.proto)).set 8 (.slice A2 n2 c2)).drew
    simp only [List.setIfInBounds_toArray, List.set_cons_zero, List.set_cons_succ] at this
    exact this⟩
  have pvc := Pv.cell
  have yvc := Yv.cell
  have pvc2 := Pv2.cell
  have yvc2 := Yv2.cell
  go_region
  clear pvc yvc pvc2 yvc2 Pv Yv Pv2 Yv2 hv2 hv
  have Y4 := Sv.blk
  have Yc4 := Y4.cell
  have P4 := P3.below (Sv.bel Vv (by omega))
  have Pc4 := P4.cell
  clear Pc3
  have Q4 := Q3.below (Sv.bel Vv (by omega))
  have Qc4 := Q4.cell
  clear Qc3
  have S4 := S3.below (Sv.bel Vv (by omega))
  have Sc4 := S4.cell
  clear Sc3
  have U4 := U3.below (Sv.bel Vv (by omega))
  have Uc4 := U4.cell
  clear Uc3
  have x4 := x3.below (Sv.bel Vv (by omega))
  have r4 := r3.below (Sv.bel Vv (by omega))
  have t4 := t3.below (Sv.bel Vv (by omega))
  have R4 := below_then R3 (Sv.bel Vv (by omega))
  clear Sv Vv
  rcases t1 with h1 | ⟨h1, h1'⟩ <;> rcases t2 with h2 | ⟨h2, h2'⟩
  all_goals go_wp2_with (first
    | (go_at_call 30; go_loud ((with_reducible refine (cc _ x4).mono ?_); rintro e u5 hpost; (obtain ⟨B5, m5, d5, rfl, O5, hB5⟩ := hpost.out); clear hpost; (obtain ⟨w5, hw5⟩ : ∃ W, u5.alloc (.cells #[.int .u8 (M).ty, .int .u8 (M).code, .int .u32 (M).rest, .slice B5 m5 d5] 28) = W := ⟨_, rfl⟩); have V5 : Below u5.heap.size u5 w5 := (by rw [← hw5]; (repeat (first | with_reducible exact Below.refl _ _ | with_reducible refine below_drew ?_ | with_reducible refine below_drewN ?_ _ | with_reducible refine below_alloc ?_ (Nat.le_refl _) _ | with_reducible refine Below.setCell ?_ (by first | exact Nat.le_refl _ | (simp only []; omega)) _ | with_reducible assumption))); (obtain ⟨kX5, hkX5⟩ : ∃ k : Nat, u5.heap.size = k := ⟨_, rfl⟩); have X5 : Blk w5 kX5 #[.int .u8 (M).ty, .int .u8 (M).code, .int .u32 (M).rest, .slice B5 m5 d5] 28 := (by rw [← hw5]; exact blk_new u5 _ _ _ hkX5); have Xc5 := X5.cell; have T5 := below_then hB5 V5; have s5 := (O5.bs).below V5; have P5 := P4.below T5; have Pc5 := P5.cell; clear Pc4; have Q5 := Q4.below T5; have Qc5 := Q5.cell; clear Qc4; have S5 := S4.below T5; have Sc5 := S5.cell; clear Sc4; have U5 := U4.below T5; have Uc5 := U5.cell; clear Uc4; have Y5 := Y4.below T5; have Yc5 := Y5.cell; clear Yc4; have x5 := x4.below T5; have r5 := r4.below T5; have t5 := t4.below T5; have R5 := below_then R4 T5))
    | (go_at_call 32; go_loud ((with_reducible refine (cd _ x5).mono ?_); rintro e u6 hpost; (obtain ⟨B6, m6, d6, rfl, O6, hB6⟩ := hpost.out); clear hpost; (obtain ⟨w6, hw6⟩ : ∃ W, u6.alloc (.cells #[.int .u16 (F).call, .bool (F).hs, .bool (F).ha, .int .u32 (F).seq, .int .u32 (F).ack, .slice B6 m6 d6] 30) = W := ⟨_, rfl⟩); have V6 : Below u6.heap.size u6 w6 := (by rw [← hw6]; (repeat (first | with_reducible exact Below.refl _ _ | with_reducible refine below_drew ?_ | with_reducible refine below_drewN ?_ _ | with_reducible refine below_alloc ?_ (Nat.le_refl _) _ | with_reducible refine Below.setCell ?_ (by first | exact Nat.le_refl _ | (simp only []; omega)) _ | with_reducible assumption))); (obtain ⟨kZ6, hkZ6⟩ : ∃ k : Nat, u6.heap.size = k := ⟨_, rfl⟩); have Z6 : Blk w6 kZ6 #[.int .u16 (F).call, .bool (F).hs, .bool (F).ha, .int .u32 (F).seq, .int .u32 (F).ack, .slice B6 m6 d6] 30 := (by rw [← hw6]; exact blk_new u6 _ _ _ hkZ6); have Zc6 := Z6.cell; have T6 := below_then hB6 V6; have u6 := (O6.bs).below V6; have P6 := P5.below T6; have Pc6 := P6.cell; clear Pc5; have Q6 := Q5.below T6; have Qc6 := Q6.cell; clear Qc5; have S6 := S5.below T6; have Sc6 := S6.cell; clear Sc5; have U6 := U5.below T6; have Uc6 := U6.cell; clear Uc5; have Y6 := Y5.below T6; have Yc6 := Y6.cell; clear Yc5; have X6 := X5.below T6; have Xc6 := X6.cell; clear Xc5; have x6 := x5.below T6; have r6 := r5.below T6; have t6 := t5.below T6; have s6 := s5.below T6; have R6 := below_then R5 T6))
    | (go_at_call 18; go_loud ((with_reducible refine (live04_any _).mono ?_); rintro e w7 ⟨rfl, hB7⟩; have P7 := P6.below hB7; have Pc7 := P7.cell; clear Pc6; have Q7 := Q6.below hB7; have Qc7 := Q7.cell; clear Qc6; have S7 := S6.below hB7; have Sc7 := S7.cell; clear Sc6; have U7 := U6.below hB7; have Uc7 := U7.cell; clear Uc6; have Y7 := Y6.below hB7; have Yc7 := Y7.cell; clear Yc6; have X7 := X6.below hB7; have Xc7 := X7.cell; clear Xc6; have Z7 := Z6.below hB7; have Zc7 := Z7.cell; clear Zc6; have x7 := x6.below hB7; have r7 := r6.below hB7; have t7 := t6.below hB7; have s7 := s6.below hB7; have u7 := u6.below hB7; have R7 := below_then R6 hB7))
    | (go_at_call 21; go_loud ((with_reducible refine (rmsame_self M _ _ _ _ _ _ _ r7 s7).mono ?_); rintro e w8 ⟨rfl, hB8⟩; have P8 := P7.below hB8; have Pc8 := P8.cell; clear Pc7; have Q8 := Q7.below hB8; have Qc8 := Q8.cell; clear Qc7; have S8 := S7.below hB8; have Sc8 := S8.cell; clear Sc7; have U8 := U7.below hB8; have Uc8 := U8.cell; clear Uc7; have Y8 := Y7.below hB8; have Yc8 := Y8.cell; clear Yc7; have X8 := X7.below hB8; have Xc8 := X8.cell; clear Xc7; have Z8 := Z7.below hB8; have Zc8 := Z8.cell; clear Zc7; have x8 := x7.below hB8; have r8 := r7.below hB8; have t8 := t7.below hB8; have s8 := s7.below hB8; have u8 := u7.below hB8; have R8 := below_then R7 hB8))
    | (go_at_call 23; go_loud ((with_reducible refine (rgsame_self F _ _ _ _ _ _ _ t8 u8).mono ?_); rintro e w9 ⟨rfl, hB9⟩; have P9 := P8.below hB9; have Pc9 := P9.cell; clear Pc8; have Q9 := Q8.below hB9; have Qc9 := Q9.cell; clear Qc8; have S9 := S8.below hB9; have Sc9 := S9.cell; clear Sc8; have U9 := U8.below hB9; have Uc9 := U9.cell; clear Uc8; have Y9 := Y8.below hB9; have Yc9 := Y9.cell; clear Yc8; have X9 := X8.below hB9; have Xc9 := X9.cell; clear Xc8; have Z9 := Z8.below hB9; have Zc9 := Z9.cell; clear Zc8; have x9 := x8.below hB9; have r9 := r8.below hB9; have t9 := t8.below hB9; have s9 := s8.below hB9; have u9 := u8.below hB9; have R9 := below_then R8 hB9)))
  all_goals go_ret
  all_goals exact ⟨rfl, R9⟩
end Go.Proofs.Ytogbncpchmnbdaa

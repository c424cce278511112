/- Parts of the proofs of this seat, laid together. -/
import Derived.Test.YthgoffbfgdgkpaaRows
import Derived.WalkKit
import Derived.ProofKit
import Derived.OpenShut
import Derived.ChangeOld
import Derived.Below
import Derived.SizedLaws
import Derived.JoinedCond
import Derived.Deep.Fields
import Derived.Test.YthgoffbfgdgkpaaGc3
namespace Go.Proofs.Ythgoffbfgdgkpaa
open Go.RowKit
set_option linter.unusedVariables false
set_option linter.unusedSimpArgs false
set_option maxHeartbeats 8000000
set_option maxRecDepth 100000

structure Told (p : Pkt) (Q : Pkt) (T : Tup) : Prop where
  e : ofE Q = 0
  t : ofT Q = T
  ok : Q.Ok
  small : Q.dat.length ≤ 65535
theorem told_tcp (p : Pkt) (hp : p.Ok) (a b : Int) (ha : 0 ≤ a ∧ a ≤ 65535) (hb : 0 ≤ b ∧ b ≤ 65535) (h1 : p.opt.length ≤ 40) (h2 : p.opt.length % 4 = 0) :
    sbE p ⟨a, b, 0, 0, 0, 0, 0, [], []⟩ = 0 ∧ Told p (sbP p ⟨a, b, 0, 0, 0, 0, 0, [], []⟩) ⟨6, p.src, p.dst, a, b⟩ := by
  obtain ⟨s, hs⟩ : ∃ s : Seg, (⟨a, b, 0, 0, 0, 0, 0, [], []⟩ : Seg) = s := ⟨_, rfl⟩
  have hso : s.Ok := by rw [← hs]; exact ⟨ha, hb, (by constructor <;> simp), (by constructor <;> simp), (by constructor <;> simp), (by constructor <;> simp), (by constructor <;> simp), fun o h => by cases h⟩
  have hE : sbE p s = 0 := by
    rw [← hs]
    unfold sbE wiE
    rw [if_pos (by rfl), if_neg (by omega), if_neg (by simp [sN, optL, optsB, padN, zs]; omega)]
  rw [hs]
  obtain ⟨e1, e2, e3, e4, e5, e6, e7⟩ := sb_back hso hE
  have e : sbP p s = { p with proto := 6, dat := sS p s } := by unfold sbP; rw [if_pos hE]
  have hpr : (sbP p s).proto = 6 := by rw [e]
  refine ⟨hE, ⟨?_, ?_, ?_, ?_⟩⟩
  · unfold ofE; rw [if_pos hpr, e1]
  · unfold ofT; rw [if_pos hpr, e1, e2, tuP, if_neg (by simp), hpr, e4, e5, ← hs]
  · rw [e]; exact ⟨hp.1, hp.2, hp.3, (by constructor <;> simp), hp.5, hp.6⟩
  · rw [e]; show (sS p s).length ≤ 65535; rw [sS_len, ← hs]; simp [sN, optL, optsB, padN, zs]
theorem told_udp (p : Pkt) (hp : p.Ok) (a b : Int) (ha : 0 ≤ a ∧ a ≤ 65535) (hb : 0 ≤ b ∧ b ≤ 65535) (h1 : p.opt.length ≤ 40) (h2 : p.opt.length % 4 = 0) :
    dbE p ⟨a, b, false, []⟩ = 0 ∧ Told p (dbP p ⟨a, b, false, []⟩) ⟨17, p.src, p.dst, a, b⟩ := by
  obtain ⟨s, hs⟩ : ∃ s : Dgm, (⟨a, b, false, []⟩ : Dgm) = s := ⟨_, rfl⟩
  have hso : s.Ok := by rw [← hs]; exact ⟨ha, hb⟩
  have hl : s.dat.length = 0 := by rw [← hs]; rfl
  have hE : dbE p s = 0 := by
    unfold dbE wiE
    rw [if_neg (by omega), if_neg (by omega)]
  rw [hs]
  obtain ⟨e1, e2, e3, -⟩ := db_back hso hE
  obtain ⟨e, -⟩ := db_form hE
  have hpr : (dbP p s).proto = 17 := by rw [e]
  refine ⟨hE, ⟨?_, ?_, ?_, ?_⟩⟩
  · unfold ofE; rw [if_neg (by rw [hpr]; decide), if_pos hpr, e1]
  · unfold ofT; rw [if_neg (by rw [hpr]; decide), if_pos hpr, e1, e2, tuP, if_neg (by simp), hpr, e, ← hs]
  · rw [e]; exact ⟨hp.1, hp.2, hp.3, (by constructor <;> simp), hp.5, hp.6⟩
  · rw [e]; show (dS p s).length ≤ 65535; rw [dS_len]; omega
theorem told_icmp (p : Pkt) (hp : p.Ok) (a : Int) (ha : 0 ≤ a ∧ a ≤ 65535) (h1 : p.opt.length ≤ 40) (h2 : p.opt.length % 4 = 0) :
    wiE p (8 + ([] : List UInt8).length) = 0 ∧ Told p (withP p 1 (mS ⟨8, 0, a * 65536, []⟩)) ⟨1, p.src, p.dst, a, a⟩ := by
  obtain ⟨s, hs⟩ : ∃ s : Msg, (⟨8, 0, a * 65536, []⟩ : Msg) = s := ⟨_, rfl⟩
  have hso : s.Ok := by rw [← hs]; exact ⟨(by constructor <;> simp), (by constructor <;> simp), by simp only []; omega⟩
  have hl : (mS s).length = 8 := by rw [mS_len, ← hs]; rfl
  have hE : wiE p (8 + ([] : List UInt8).length) = 0 := by
    unfold wiE
    rw [if_neg (by omega), if_neg (by simp only [List.length_nil]; omega)]
  have hE' : wiE p (mS s).length = 0 := by rw [hl]; exact hE
  rw [hs]
  have e : withP p 1 (mS s) = { p with proto := 1, dat := mS s } := by unfold withP; rw [if_pos hE']
  obtain ⟨e1, e2⟩ := ic_back p s hso
  have hpr : (withP p 1 (mS s)).proto = 1 := by rw [e]
  have hec : isEchoM s = true := by rw [← hs]; rfl
  have hpe : picE 0 s = 0 := by unfold picE; rw [if_neg (by rw [hec]; simp)]
  have hn : s.rest / 65536 = a := by rw [← hs]; simp only []; omega
  refine ⟨hE, ⟨?_, ?_, ?_, ?_⟩⟩
  · unfold ofE; rw [if_neg (by rw [hpr]; decide), if_neg (by rw [hpr]; decide), if_pos hpr, e, e1, e2, hpe]
  · unfold ofT; rw [if_neg (by rw [hpr]; decide), if_neg (by rw [hpr]; decide), if_pos hpr, e, e1, e2, hpe, hn, tuP, if_neg (by simp)]
  · rw [e]; exact ⟨hp.1, hp.2, hp.3, (by constructor <;> simp), hp.5, hp.6⟩
  · rw [e]; show (mS s).length ≤ 65535; omega
theorem told_gre (p : Pkt) (hp : p.Ok) (b : Int) (hb : 0 ≤ b ∧ b ≤ 65535) (h1 : p.opt.length ≤ 40) (h2 : p.opt.length % 4 = 0) :
    bgE p ⟨b, false, false, 0, 0, []⟩ = 0 ∧ Told p (bgP p ⟨b, false, false, 0, 0, []⟩) ⟨47, p.src, p.dst, 0, b⟩ := by
  obtain ⟨s, hs⟩ : ∃ s : Frm, (⟨b, false, false, 0, 0, []⟩ : Frm) = s := ⟨_, rfl⟩
  have hso : s.Ok := by rw [← hs]; exact ⟨hb, (by constructor <;> simp), (by constructor <;> simp)⟩
  have hbad : gBad s = false := by rw [← hs]; rfl
  have hN : gN s = 8 := by rw [← hs]; rfl
  have hl : s.dat.length ≤ 65535 := by rw [← hs]; simp
  have hE : bgE p s = 0 := by
    unfold bgE wiE
    rw [hbad, hN]
    simp only [Bool.false_eq_true, if_false]
    rw [if_neg (by omega), if_neg (by omega)]
  rw [hs]
  have e := bgP_ok hE
  obtain ⟨e1, e2⟩ := ge_back p s hso hbad hl
  have hpr : (bgP p s).proto = 47 := by rw [e]
  refine ⟨hE, ⟨?_, ?_, ?_, ?_⟩⟩
  · unfold ofE; rw [if_neg (by rw [hpr]; decide), if_neg (by rw [hpr]; decide), if_neg (by rw [hpr]; decide), if_pos hpr, e, e1]
  · unfold ofT; rw [if_neg (by rw [hpr]; decide), if_neg (by rw [hpr]; decide), if_neg (by rw [hpr]; decide), if_pos hpr, e, e1, e2, tuP, if_neg (by simp), ← hs]
  · rw [e]; exact ⟨hp.1, hp.2, hp.3, (by constructor <;> simp), hp.5, hp.6⟩
  · rw [e]; show (gL s).length ≤ 65535; rw [gL_len, hN]; omega
theorem told_of {p Q : Pkt} {T : Tup} (h : Told p Q T) (C1 : Option Addr) (e1 f1 : Nat) (C2 : Option Addr) (e2 f2 : Nat) (W : World) (k : Bs W C2 e2 f2 Q.dat) :
    Calls Try.prog 10 #[(.agg #[.int .u8 (Q).tos, .int .u16 (Q).id, .bool (Q).keep, .int .u8 (Q).ttl, .int .u8 (Q).proto, .int .u32 (Q).src, .int .u32 (Q).dst, .slice C1 e1 f1, .slice C2 e2 f2])] W fun e w' => e = .returned (.tuple #[(.agg #[.int .u8 (T).proto, .int .u32 (T).src, .int .u32 (T).dst, .int .u16 (T).sp, .int .u16 (T).dp]), .int .i64 0]) ∧ Below W.heap.size W w' := by
  have hl := k.len
  have hs := h.small
  refine (of_any Q h.ok C1 e1 f1 C2 e2 f2 W k (by omega)).mono fun e w' hq => ?_
  have := hq.out
  rw [h.e, h.t] at this
  exact this
theorem tupleTold_walk (w : World) (p : Pkt) (hp : p.Ok) (A1 : Option Addr) (n1 c1 : Nat) (A2 : Option Addr) (n2 c2 : Nat) (k1 : Bs w A1 n1 c1 p.opt) (k2 : Bs w A2 n2 c2 p.dat) (a : Int) (a0 : 0 ≤ a) (a1 : a ≤ 65535) (b : Int) (b0 : 0 ≤ b) (b1 : b ≤ 65535) :
    Calls Try.prog 6 #[(.agg #[.int .u8 (p).tos, .int .u16 (p).id, .bool (p).keep, .int .u8 (p).ttl, .int .u8 (p).proto, .int .u32 (p).src, .int .u32 (p).dst, .slice A1 n1 c1, .slice A2 n2 c2]), .int .u16 a, .int .u16 b] w fun e w' => e = .returned (.bool true) ∧ Below w.heap.size w w' := by
  have l1 := k1.len
  obtain ⟨k, hk⟩ : ∃ k : Nat, w.heap.size = k := ⟨_, rfl⟩
  obtain ⟨w1, hw1⟩ : ∃ W, (w.alloc (.cells #[.int .u8 (p).tos, .int .u16 (p).id, .bool (p).keep, .int .u8 (p).ttl, .int .u8 (p).proto, .int .u32 (p).src, .int .u32 (p).dst, .slice A1 n1 c1, .slice A2 n2 c2] 26)) = W := ⟨_, rfl⟩
  have P1 : Blk w1 k #[.int .u8 (p).tos, .int .u16 (p).id, .bool (p).keep, .int .u8 (p).ttl, .int .u8 (p).proto, .int .u32 (p).src, .int .u32 (p).dst, .slice A1 n1 c1, .slice A2 n2 c2] 26 := by rw [← hw1]; exact (blk_new _ _ _ k (by simp [hk]))
  have R1 : Below w.heap.size w w1 := by rw [← hw1]; (repeat (first | with_reducible exact Below.refl _ _ | with_reducible refine below_drew ?_ | with_reducible refine below_drewN ?_ _ | with_reducible refine below_alloc ?_ (Nat.le_refl _) _ | with_reducible refine Below.setCell ?_ (by first | exact Nat.le_refl _ | (simp only []; omega)) _ | with_reducible assumption))
  have Pc1 := P1.cell
  have Pl1 := P1.lt
  have x1 := (k1).below R1
  by_cases h1 : 40 < (n1 : Int)
  · go_enter Try.func6, Try.ntmps6
    go_wp2_with (go_at_call 12; ((with_reducible refine (live05_any w1).mono ?_); rintro e w2 ⟨rfl, hB2⟩); have P2 := P1.below hB2; have Pc2 := P2.cell; clear Pc1; have x2 := x1.below hB2; have R2 := below_then R1 hB2)
    go_ret
    exact ⟨rfl, R2⟩

  obtain ⟨r, hr⟩ : ∃ r : Int, (n1 : Int) % 4 = r := ⟨_, rfl⟩
  by_cases h2 : r = 0
  case neg =>
    have h2' : (r != 0) = true := by simpa using h2
    have h1' : (n1 : Int) ≤ 40 := by omega
    have r0 : 0 ≤ r ∧ r ≤ 3 := by omega
    clear h2
    go_enter Try.func6, Try.ntmps6
    go_wp2_with (go_at_call 12; ((with_reducible refine (live05_any w1).mono ?_); rintro e w2 ⟨rfl, hB2⟩); have P2 := P1.below hB2; have Pc2 := P2.cell; clear Pc1; have x2 := x1.below hB2; have R2 := below_then R1 hB2)
    go_ret
    exact ⟨rfl, R2⟩

  subst h2
  have h1' : (n1 : Int) ≤ 40 := by omega
  obtain ⟨E1, T1⟩ := told_tcp p hp a b ⟨a0, a1⟩ ⟨b0, b1⟩ (by omega) (by omega)
  obtain ⟨E2, T2⟩ := told_udp p hp a b ⟨a0, a1⟩ ⟨b0, b1⟩ (by omega) (by omega)
  obtain ⟨E3, T3⟩ := told_icmp p hp a ⟨a0, a1⟩ (by omega) (by omega)
  obtain ⟨E4, T4⟩ := told_gre p hp b ⟨b0, b1⟩ (by omega) (by omega)
  have hm0 : (⟨8, 0, a * 65536, []⟩ : Msg).Ok := ⟨(by constructor <;> simp), (by constructor <;> simp), by simp only []; omega⟩
  have hs0 : (⟨a, b, 0, 0, 0, 0, 0, [], []⟩ : Seg).Ok := ⟨⟨a0, a1⟩, ⟨b0, b1⟩, (by constructor <;> simp), (by constructor <;> simp), (by constructor <;> simp), (by constructor <;> simp), (by constructor <;> simp), fun o h => by cases h⟩
  have nilK : ∀ W, Os W none 0 0 [] := fun W => (osO_nil W 0).os (by omega) (fun o h => by cases h)
  have m1 := fun W k => rsbuild_any p hp A1 n1 c1 A2 n2 c2 ⟨a, b, 0, 0, 0, 0, 0, [], []⟩ hs0 none 0 0 none 0 0 W k (nilK W) (Bs.none_ W) (by omega)
  have m2 := fun W k => rdbuild_any p hp A1 n1 c1 A2 n2 c2 ⟨a, b, false, []⟩ ⟨⟨a0, a1⟩, ⟨b0, b1⟩⟩ none 0 0 W k (Bs.none_ W)
  have m3 := fun W k => rbicmp_any p A1 n1 c1 A2 n2 c2 ⟨8, 0, a * 65536, []⟩ hm0 none 0 0 W k (Bs.none_ W)
  have m4 := fun W k => rbg_any p A1 n1 c1 A2 n2 c2 ⟨b, false, false, 0, 0, []⟩ ⟨⟨b0, b1⟩, (by constructor <;> simp), (by constructor <;> simp)⟩ none 0 0 W k (Bs.none_ W)
  rw [E1] at m1
  rw [E2] at m2
  simp only [E3] at m3
  rw [E4] at m4
  obtain ⟨Q1, hQ1⟩ : ∃ q, sbP p ⟨a, b, 0, 0, 0, 0, 0, [], []⟩ = q := ⟨_, rfl⟩
  obtain ⟨Q2, hQ2⟩ : ∃ q, dbP p ⟨a, b, false, []⟩ = q := ⟨_, rfl⟩
  obtain ⟨Q3, hQ3⟩ : ∃ q, withP p 1 (mS ⟨8, 0, a * 65536, []⟩) = q := ⟨_, rfl⟩
  obtain ⟨Q4, hQ4⟩ : ∃ q, bgP p ⟨b, false, false, 0, 0, []⟩ = q := ⟨_, rfl⟩
  rw [hQ1] at m1 T1
  rw [hQ2] at m2 T2
  rw [hQ3] at m3 T3
  rw [hQ4] at m4 T4
  clear hQ1 hQ2 hQ3 hQ4 E1 E2 E3 E4 hm0 hs0
  have o1 := fun C1 e1 f1 C2 e2 f2 W k => told_of T1 C1 e1 f1 C2 e2 f2 W k
  have o2 := fun C1 e1 f1 C2 e2 f2 W k => told_of T2 C1 e1 f1 C2 e2 f2 W k
  have o3 := fun C1 e1 f1 C2 e2 f2 W k => told_of T3 C1 e1 f1 C2 e2 f2 W k
  have o4 := fun C1 e1 f1 C2 e2 f2 W k => told_of T4 C1 e1 f1 C2 e2 f2 W k
  clear T1 T2 T3 T4
  go_enter Try.func6, Try.ntmps6
  go_wp2_with (first
    | (go_at_call 19; ((with_reducible refine (m1 w1 x1).mono ?_); rintro e u2 ⟨⟨C1, e1, f1, C2, e2, f2, rfl, -, Oq, hB2⟩⟩); (obtain ⟨w2, hw2⟩ : ∃ W, u2.alloc (.cells #[.int .u8 (Q1).tos, .int .u16 (Q1).id, .bool (Q1).keep, .int .u8 (Q1).ttl, .int .u8 (Q1).proto, .int .u32 (Q1).src, .int .u32 (Q1).dst, .slice C1 e1 f1, .slice C2 e2 f2] 26) = W := ⟨_, rfl⟩); have V2 : Below u2.heap.size u2 w2 := (by rw [← hw2]; (repeat (first | with_reducible exact Below.refl _ _ | with_reducible refine below_drew ?_ | with_reducible refine below_drewN ?_ _ | with_reducible refine below_alloc ?_ (Nat.le_refl _) _ | with_reducible refine Below.setCell ?_ (by first | exact Nat.le_refl _ | (simp only []; omega)) _ | with_reducible assumption))); (obtain ⟨kG2, hkG2⟩ : ∃ k : Nat, u2.heap.size = k := ⟨_, rfl⟩); have G2 : Blk w2 kG2 #[.int .u8 (Q1).tos, .int .u16 (Q1).id, .bool (Q1).keep, .int .u8 (Q1).ttl, .int .u8 (Q1).proto, .int .u32 (Q1).src, .int .u32 (Q1).dst, .slice C1 e1 f1, .slice C2 e2 f2] 26 := (by rw [← hw2]; exact blk_new u2 _ _ _ hkG2); have Gc2 := G2.cell; have T2 := below_then hB2 V2; have qx2 := (Oq.bs).below V2; have P2 := P1.below T2; have Pc2 := P2.cell; clear Pc1; have x2 := x1.below T2; have R2 := below_then R1 T2)
    | (go_at_call 20; ((with_reducible refine (m2 w2 x2).mono ?_); rintro e u3 ⟨⟨D1, g1, i1, D2, g2, i2, rfl, -, Od, hB3⟩⟩); (obtain ⟨w3, hw3⟩ : ∃ W, u3.alloc (.cells #[.int .u8 (Q2).tos, .int .u16 (Q2).id, .bool (Q2).keep, .int .u8 (Q2).ttl, .int .u8 (Q2).proto, .int .u32 (Q2).src, .int .u32 (Q2).dst, .slice D1 g1 i1, .slice D2 g2 i2] 26) = W := ⟨_, rfl⟩); have V3 : Below u3.heap.size u3 w3 := (by rw [← hw3]; (repeat (first | with_reducible exact Below.refl _ _ | with_reducible refine below_drew ?_ | with_reducible refine below_drewN ?_ _ | with_reducible refine below_alloc ?_ (Nat.le_refl _) _ | with_reducible refine Below.setCell ?_ (by first | exact Nat.le_refl _ | (simp only []; omega)) _ | with_reducible assumption))); (obtain ⟨kD3, hkD3⟩ : ∃ k : Nat, u3.heap.size = k := ⟨_, rfl⟩); have D3 : Blk w3 kD3 #[.int .u8 (Q2).tos, .int .u16 (Q2).id, .bool (Q2).keep, .int .u8 (Q2).ttl, .int .u8 (Q2).proto, .int .u32 (Q2).src, .int .u32 (Q2).dst, .slice D1 g1 i1, .slice D2 g2 i2] 26 := (by rw [← hw3]; exact blk_new u3 _ _ _ hkD3); have Dc3 := D3.cell; have T3 := below_then hB3 V3; have dx3 := (Od.bs).below V3; have P3 := P2.below T3; have Pc3 := P3.cell; clear Pc2; have G3 := G2.below T3; have Gc3 := G3.cell; clear Gc2; have x3 := x2.below T3; have qx3 := qx2.below T3; have R3 := below_then R2 T3)
    | (go_at_call 21; ((with_reducible refine (m3 w3 x3).mono ?_); rintro e u4 ⟨⟨I1, j1, k1', I2, j2, k2', rfl, -, Oi, hB4⟩⟩); (obtain ⟨w4, hw4⟩ : ∃ W, u4.alloc (.cells #[.int .u8 (Q3).tos, .int .u16 (Q3).id, .bool (Q3).keep, .int .u8 (Q3).ttl, .int .u8 (Q3).proto, .int .u32 (Q3).src, .int .u32 (Q3).dst, .slice I1 j1 k1', .slice I2 j2 k2'] 26) = W := ⟨_, rfl⟩); have V4 : Below u4.heap.size u4 w4 := (by rw [← hw4]; (repeat (first | with_reducible exact Below.refl _ _ | with_reducible refine below_drew ?_ | with_reducible refine below_drewN ?_ _ | with_reducible refine below_alloc ?_ (Nat.le_refl _) _ | with_reducible refine Below.setCell ?_ (by first | exact Nat.le_refl _ | (simp only []; omega)) _ | with_reducible assumption))); (obtain ⟨kI4, hkI4⟩ : ∃ k : Nat, u4.heap.size = k := ⟨_, rfl⟩); have I4 : Blk w4 kI4 #[.int .u8 (Q3).tos, .int .u16 (Q3).id, .bool (Q3).keep, .int .u8 (Q3).ttl, .int .u8 (Q3).proto, .int .u32 (Q3).src, .int .u32 (Q3).dst, .slice I1 j1 k1', .slice I2 j2 k2'] 26 := (by rw [← hw4]; exact blk_new u4 _ _ _ hkI4); have Ic4 := I4.cell; have T4 := below_then hB4 V4; have ix4 := (Oi.bs).below V4; have P4 := P3.below T4; have Pc4 := P4.cell; clear Pc3; have G4 := G3.below T4; have Gc4 := G4.cell; clear Gc3; have D4 := D3.below T4; have Dc4 := D4.cell; clear Dc3; have x4 := x3.below T4; have qx4 := qx3.below T4; have dx4 := dx3.below T4; have R4 := below_then R3 T4)
    | (go_at_call 22; ((with_reducible refine (m4 w4 x4).mono ?_); rintro e u5 ⟨⟨F1, y1, z1, F2, y2, z2, rfl, -, Of, hB5⟩⟩); (obtain ⟨w5, hw5⟩ : ∃ W, u5.alloc (.cells #[.int .u8 (Q4).tos, .int .u16 (Q4).id, .bool (Q4).keep, .int .u8 (Q4).ttl, .int .u8 (Q4).proto, .int .u32 (Q4).src, .int .u32 (Q4).dst, .slice F1 y1 z1, .slice F2 y2 z2] 26) = W := ⟨_, rfl⟩); have V5 : Below u5.heap.size u5 w5 := (by rw [← hw5]; (repeat (first | with_reducible exact Below.refl _ _ | with_reducible refine below_drew ?_ | with_reducible refine below_drewN ?_ _ | with_reducible refine below_alloc ?_ (Nat.le_refl _) _ | with_reducible refine Below.setCell ?_ (by first | exact Nat.le_refl _ | (simp only []; omega)) _ | with_reducible assumption))); (obtain ⟨kF5, hkF5⟩ : ∃ k : Nat, u5.heap.size = k := ⟨_, rfl⟩); have F5 : Blk w5 kF5 #[.int .u8 (Q4).tos, .int .u16 (Q4).id, .bool (Q4).keep, .int .u8 (Q4).ttl, .int .u8 (Q4).proto, .int .u32 (Q4).src, .int .u32 (Q4).dst, .slice F1 y1 z1, .slice F2 y2 z2] 26 := (by rw [← hw5]; exact blk_new u5 _ _ _ hkF5); have Fc5 := F5.cell; have T5 := below_then hB5 V5; have fx5 := (Of.bs).below V5; have P5 := P4.below T5; have Pc5 := P5.cell; clear Pc4; have G5 := G4.below T5; have Gc5 := G5.cell; clear Gc4; have D5 := D4.below T5; have Dc5 := D5.cell; clear Dc4; have I5 := I4.below T5; have Ic5 := I5.cell; clear Ic4; have x5 := x4.below T5; have qx5 := qx4.below T5; have dx5 := dx4.below T5; have ix5 := ix4.below T5; have R5 := below_then R4 T5; (obtain ⟨w6, hw6⟩ : ∃ W, w5.alloc (.cells #[.int .u8 0, .int .u32 p.src, .int .u32 p.dst, .int .u16 0, .int .u16 0] 28) = W := ⟨_, rfl⟩); have V6 : Below w5.heap.size w5 w6 := (by rw [← hw6]; (repeat (first | with_reducible exact Below.refl _ _ | with_reducible refine below_drew ?_ | with_reducible refine below_drewN ?_ _ | with_reducible refine below_alloc ?_ (Nat.le_refl _) _ | with_reducible refine Below.setCell ?_ (by first | exact Nat.le_refl _ | (simp only []; omega)) _ | with_reducible assumption))); (obtain ⟨kS6, hkS6⟩ : ∃ k : Nat, w5.heap.size = k := ⟨_, rfl⟩); have S6 : Blk w6 kS6 #[.int .u8 0, .int .u32 p.src, .int .u32 p.dst, .int .u16 0, .int .u16 0] 28 := (by rw [← hw6]; exact blk_new w5 _ _ _ hkS6); have Sc6 := S6.cell; have P6 := P5.below V6; have Pc6 := P6.cell; have G6 := G5.below V6; have Gc6 := G6.cell; have D6 := D5.below V6; have Dc6 := D6.cell; have I6 := I5.below V6; have Ic6 := I6.cell; have F6 := F5.below V6; have Fc6 := F6.cell; have x6 := x5.below V6; have qx6 := qx5.below V6; have dx6 := dx5.below V6; have ix6 := ix5.below V6; have fx6 := fx5.below V6; have R6 := below_then R5 V6; have i3 : w6.setCell ⟨kS6, 3, none⟩ (.int .u16 0) = w6 := S6.idle rfl; have i4 : w6.setCell ⟨kS6, 4, none⟩ (.int .u16 0) = w6 := S6.idle rfl)
    | (go_at_call 10; ((with_reducible refine (o1 C1 e1 f1 C2 e2 f2 w6 qx6).mono ?_); rintro e u7 ⟨rfl, hB7⟩); (obtain ⟨w7, hw7⟩ : ∃ W, u7.alloc (.cells #[.int .u8 6, .int .u32 p.src, .int .u32 p.dst, .int .u16 a, .int .u16 b] 28) = W := ⟨_, rfl⟩); have V7 : Below u7.heap.size u7 w7 := (by rw [← hw7]; (repeat (first | with_reducible exact Below.refl _ _ | with_reducible refine below_drew ?_ | with_reducible refine below_drewN ?_ _ | with_reducible refine below_alloc ?_ (Nat.le_refl _) _ | with_reducible refine Below.setCell ?_ (by first | exact Nat.le_refl _ | (simp only []; omega)) _ | with_reducible assumption))); (obtain ⟨kUA7, hkUA7⟩ : ∃ k : Nat, u7.heap.size = k := ⟨_, rfl⟩); have UA7 : Blk w7 kUA7 #[.int .u8 6, .int .u32 p.src, .int .u32 p.dst, .int .u16 a, .int .u16 b] 28 := (by rw [← hw7]; exact blk_new u7 _ _ _ hkUA7); have UAc7 := UA7.cell; have T7 := below_then hB7 V7; have P7 := P6.below T7; have Pc7 := P7.cell; clear Pc6; have G7 := G6.below T7; have Gc7 := G7.cell; clear Gc6; have D7 := D6.below T7; have Dc7 := D7.cell; clear Dc6; have I7 := I6.below T7; have Ic7 := I7.cell; clear Ic6; have F7 := F6.below T7; have Fc7 := F7.cell; clear Fc6; have S7 := S6.below T7; have Sc7 := S7.cell; clear Sc6; have x7 := x6.below T7; have qx7 := qx6.below T7; have dx7 := dx6.below T7; have ix7 := ix6.below T7; have fx7 := fx6.below T7; have R7 := below_then R6 T7)
    | (go_at_call 10; ((with_reducible refine (o2 D1 g1 i1 D2 g2 i2 w7 dx7).mono ?_); rintro e u8 ⟨rfl, hB8⟩); (obtain ⟨w8, hw8⟩ : ∃ W, u8.alloc (.cells #[.int .u8 17, .int .u32 p.src, .int .u32 p.dst, .int .u16 a, .int .u16 b] 28) = W := ⟨_, rfl⟩); have V8 : Below u8.heap.size u8 w8 := (by rw [← hw8]; (repeat (first | with_reducible exact Below.refl _ _ | with_reducible refine below_drew ?_ | with_reducible refine below_drewN ?_ _ | with_reducible refine below_alloc ?_ (Nat.le_refl _) _ | with_reducible refine Below.setCell ?_ (by first | exact Nat.le_refl _ | (simp only []; omega)) _ | with_reducible assumption))); (obtain ⟨kUB8, hkUB8⟩ : ∃ k : Nat, u8.heap.size = k := ⟨_, rfl⟩); have UB8 : Blk w8 kUB8 #[.int .u8 17, .int .u32 p.src, .int .u32 p.dst, .int .u16 a, .int .u16 b] 28 := (by rw [← hw8]; exact blk_new u8 _ _ _ hkUB8); have UBc8 := UB8.cell; have T8 := below_then hB8 V8; have P8 := P7.below T8; have Pc8 := P8.cell; clear Pc7; have G8 := G7.below T8; have Gc8 := G8.cell; clear Gc7; have D8 := D7.below T8; have Dc8 := D8.cell; clear Dc7; have I8 := I7.below T8; have Ic8 := I8.cell; clear Ic7; have F8 := F7.below T8; have Fc8 := F8.cell; clear Fc7; have S8 := S7.below T8; have Sc8 := S8.cell; clear Sc7; have UA8 := UA7.below T8; have UAc8 := UA8.cell; clear UAc7; have x8 := x7.below T8; have qx8 := qx7.below T8; have dx8 := dx7.below T8; have ix8 := ix7.below T8; have fx8 := fx7.below T8; have R8 := below_then R7 T8)
    | (go_at_call 10; ((with_reducible refine (o3 I1 j1 k1' I2 j2 k2' w8 ix8).mono ?_); rintro e u9 ⟨rfl, hB9⟩); (obtain ⟨w9, hw9⟩ : ∃ W, u9.alloc (.cells #[.int .u8 1, .int .u32 p.src, .int .u32 p.dst, .int .u16 a, .int .u16 a] 28) = W := ⟨_, rfl⟩); have V9 : Below u9.heap.size u9 w9 := (by rw [← hw9]; (repeat (first | with_reducible exact Below.refl _ _ | with_reducible refine below_drew ?_ | with_reducible refine below_drewN ?_ _ | with_reducible refine below_alloc ?_ (Nat.le_refl _) _ | with_reducible refine Below.setCell ?_ (by first | exact Nat.le_refl _ | (simp only []; omega)) _ | with_reducible assumption))); (obtain ⟨kUC9, hkUC9⟩ : ∃ k : Nat, u9.heap.size = k := ⟨_, rfl⟩); have UC9 : Blk w9 kUC9 #[.int .u8 1, .int .u32 p.src, .int .u32 p.dst, .int .u16 a, .int .u16 a] 28 := (by rw [← hw9]; exact blk_new u9 _ _ _ hkUC9); have UCc9 := UC9.cell; have T9 := below_then hB9 V9; have P9 := P8.below T9; have Pc9 := P9.cell; clear Pc8; have G9 := G8.below T9; have Gc9 := G9.cell; clear Gc8; have D9 := D8.below T9; have Dc9 := D9.cell; clear Dc8; have I9 := I8.below T9; have Ic9 := I9.cell; clear Ic8; have F9 := F8.below T9; have Fc9 := F9.cell; clear Fc8; have S9 := S8.below T9; have Sc9 := S9.cell; clear Sc8; have UA9 := UA8.below T9; have UAc9 := UA9.cell; clear UAc8; have UB9 := UB8.below T9; have UBc9 := UB9.cell; clear UBc8; have x9 := x8.below T9; have qx9 := qx8.below T9; have dx9 := dx8.below T9; have ix9 := ix8.below T9; have fx9 := fx8.below T9; have R9 := below_then R8 T9)
    | (go_at_call 10; ((with_reducible refine (o4 F1 y1 z1 F2 y2 z2 w9 fx9).mono ?_); rintro e u10 ⟨rfl, hB10⟩); (obtain ⟨w10, hw10⟩ : ∃ W, u10.alloc (.cells #[.int .u8 47, .int .u32 p.src, .int .u32 p.dst, .int .u16 0, .int .u16 b] 28) = W := ⟨_, rfl⟩); have V10 : Below u10.heap.size u10 w10 := (by rw [← hw10]; (repeat (first | with_reducible exact Below.refl _ _ | with_reducible refine below_drew ?_ | with_reducible refine below_drewN ?_ _ | with_reducible refine below_alloc ?_ (Nat.le_refl _) _ | with_reducible refine Below.setCell ?_ (by first | exact Nat.le_refl _ | (simp only []; omega)) _ | with_reducible assumption))); (obtain ⟨kUD10, hkUD10⟩ : ∃ k : Nat, u10.heap.size = k := ⟨_, rfl⟩); have UD10 : Blk w10 kUD10 #[.int .u8 47, .int .u32 p.src, .int .u32 p.dst, .int .u16 0, .int .u16 b] 28 := (by rw [← hw10]; exact blk_new u10 _ _ _ hkUD10); have UDc10 := UD10.cell; have T10 := below_then hB10 V10; have P10 := P9.below T10; have Pc10 := P10.cell; clear Pc9; have G10 := G9.below T10; have Gc10 := G10.cell; clear Gc9; have D10 := D9.below T10; have Dc10 := D10.cell; clear Dc9; have I10 := I9.below T10; have Ic10 := I10.cell; clear Ic9; have F10 := F9.below T10; have Fc10 := F10.cell; clear Fc9; have S10 := S9.below T10; have Sc10 := S10.cell; clear Sc9; have UA10 := UA9.below T10; have UAc10 := UA10.cell; clear UAc9; have UB10 := UB9.below T10; have UBc10 := UB10.cell; clear UBc9; have UC10 := UC9.below T10; have UCc10 := UC10.cell; clear UCc9; have x10 := x9.below T10; have qx10 := qx9.below T10; have dx10 := dx9.below T10; have ix10 := ix9.below T10; have fx10 := fx9.below T10; have R10 := below_then R9 T10; have n7 : kUA7 ≠ kS6 := (by have h1 := S6.lt; have h2 := hB7.size; omega); have n8 : kUB8 ≠ kS6 := (by have h1 := S7.lt; have h2 := hB8.size; omega); have n9 : kUC9 ≠ kS6 := (by have h1 := S8.lt; have h2 := hB9.size; omega); have n10 : kUD10 ≠ kS6 := (by have h1 := S9.lt; have h2 := hB10.size; omega); have gS : w.heap.size ≤ kS6 := (by have h1 := R5.size; omega); (obtain ⟨wa, hwa, Sa⟩ : ∃ wf, (((w10.setCell ⟨kS6, 0, none⟩ (.int .u8 6)).setCell ⟨kS6, 3, none⟩ (.int .u16 a)).setCell ⟨kS6, 4, none⟩ (.int .u16 b)) = wf ∧ Sto w10 kS6 wf #[.int .u8 6, .int .u32 p.src, .int .u32 p.dst, .int .u16 a, .int .u16 b] 28 := ⟨_, rfl, by have h := ((((Sto.nil S10).set 0 (.int .u8 6)).set 3 (.int .u16 a)).set 4 (.int .u16 b)); simp only [List.setIfInBounds_toArray, List.set_cons_zero, List.set_cons_succ] at h; exact h⟩); have Sac := Sa.blk.cell; have UAa := Sa.other n7 UA10; have UAac := UAa.cell; have UBa := Sa.other n8 UB10; have UBac := UBa.cell; have UCa := Sa.other n9 UC10; have UCac := UCa.cell; have UDa := Sa.other n10 UD10; have UDac := UDa.cell; (obtain ⟨wb, hwb, Sb⟩ : ∃ wf, (wa.setCell ⟨kS6, 0, none⟩ (.int .u8 17)) = wf ∧ Sto wa kS6 wf #[.int .u8 17, .int .u32 p.src, .int .u32 p.dst, .int .u16 a, .int .u16 b] 28 := ⟨_, rfl, by have h := ((Sto.nil Sa.blk).set 0 (.int .u8 17)); simp only [List.setIfInBounds_toArray, List.set_cons_zero, List.set_cons_succ] at h; exact h⟩); have Sbc := Sb.blk.cell; have UBb := Sb.other n8 UBa; have UBbc := UBb.cell; have UCb := Sb.other n9 UCa; have UCbc := UCb.cell; have UDb := Sb.other n10 UDa; have UDbc := UDb.cell; (obtain ⟨wc, hwc, Sc⟩ : ∃ wf, ((wb.setCell ⟨kS6, 0, none⟩ (.int .u8 1)).setCell ⟨kS6, 4, none⟩ (.int .u16 a)) = wf ∧ Sto wb kS6 wf #[.int .u8 1, .int .u32 p.src, .int .u32 p.dst, .int .u16 a, .int .u16 a] 28 := ⟨_, rfl, by have h := (((Sto.nil Sb.blk).set 0 (.int .u8 1)).set 4 (.int .u16 a)); simp only [List.setIfInBounds_toArray, List.set_cons_zero, List.set_cons_succ] at h; exact h⟩); have Scc := Sc.blk.cell; have UCc_ := Sc.other n9 UCb; have UCcc := UCc_.cell; have UDc_ := Sc.other n10 UDb; have UDcc := UDc_.cell; (obtain ⟨wd, hwd, Sd⟩ : ∃ wf, (((wc.setCell ⟨kS6, 0, none⟩ (.int .u8 47)).setCell ⟨kS6, 3, none⟩ (.int .u16 0)).setCell ⟨kS6, 4, none⟩ (.int .u16 b)) = wf ∧ Sto wc kS6 wf #[.int .u8 47, .int .u32 p.src, .int .u32 p.dst, .int .u16 0, .int .u16 b] 28 := ⟨_, rfl, by have h := ((((Sto.nil Sc.blk).set 0 (.int .u8 47)).set 3 (.int .u16 0)).set 4 (.int .u16 b)); simp only [List.setIfInBounds_toArray, List.set_cons_zero, List.set_cons_succ] at h; exact h⟩); have Sdc := Sd.blk.cell; have UDd := Sd.other n10 UDc_; have Rd := Sd.bel (Sc.bel (Sb.bel (Sa.bel R10 gS) gS) gS) gS)
    | (go_at_call 12; ((with_reducible refine (live05_any wd).mono ?_); rintro e w11 ⟨rfl, hB11⟩); have Sz := (Sd.blk.below hB11).cell; have Uz := (UDd.below hB11).cell; have RZ := below_then Rd hB11))
  go_ret
  exact ⟨rfl, RZ⟩

end Go.Proofs.Ythgoffbfgdgkpaa

namespace Go.Proofs.Ythgoffbfgdgkpaa
open Go.ChangeShapes Go.WideShapes Go.ChangeAt Go.RowKit
set_option linter.unusedVariables false

theorem own_knob : ownKnob Try.prog.godebug = none := by kernel_rfl
theorem laid_out : laidOutB Try.prog = true := by kernel_rfl
section
variable {H : Type} {enc : TypeId × Value → H} {P : Program} {w : World} {base : Nat} {held : Bool} {spare : Nat → Bool}
theorem open_bs {t e : TypeId} {fuel : Nat} {v : Value} {x : DataW H × List MemPlace} (ht : P.underlying t = some (.slice e)) (he : P.underlying e = some (.int .u8)) (hc : P.cellsOf e = 1)
    (h : DataW.trod enc P w base spare held fuel t [v] = some x) :
    ∃ A n c l, v = .slice A n c ∧ (n ≤ 200000000000000 → Bs w A n c l) ∧ ((x.1 = .nil ∧ n = 0) ∨ ∃ es sp, x.1 = .slice es sp ∧ es.length = n) := by
  rcases open_ints ht he hc h with ⟨hcs, rfl⟩ | ⟨a, len, cap, zs, hcs, _, hl, hm, hz, rfl, hcell, hwz⟩
  · simp only [List.cons.injEq, and_true] at hcs
    subst hcs
    exact ⟨none, 0, 0, [], rfl, fun _ => Bs.none_ w, .inl ⟨rfl, rfl⟩⟩
  · simp only [List.cons.injEq, and_true] at hcs
    subst hcs
    have hzl : len ≤ zs.length := by rw [hz]; split <;> omega
    have hlen : ((zs.take len).map ub).length = len := by simp; omega
    refine ⟨some a, len, cap, (zs.take len).map ub, rfl, fun hn => ⟨hlen, hl, hn, (fun h => by cases h), fun h0 => ?_⟩, .inr ⟨_, _, rfl, by simp [lits]; omega⟩⟩
    obtain ⟨b, off, spot⟩ := a
    have hc0 := hcell 0 (by omega)
    have hspot : spot = none := by simpa [Addr.add] using World.cell?_spot hc0
    subst hspot
    refine ⟨b, off, rfl, fun j hj => ?_⟩
    have h1 := hcell j (by omega)
    have ha : (⟨b, off, none⟩ : Addr).add j = ⟨b, off + j, none⟩ := by unfold Addr.add; split <;> simp_all
    rw [ha] at h1
    rw [h1]
    have hb : 0 ≤ zs.getD j 0 ∧ zs.getD j 0 ≤ 255 := by
      have hmem : zs.getD j 0 ∈ zs := by
        rw [List.getD_eq_getElem?_getD, List.getElem?_eq_getElem (by omega)]
        exact List.getElem_mem _
      simpa [Lit.wf, IntKind.min, IntKind.max, IntKind.signed, IntKind.bits] using hwz _ hmem
    have e : zs.getD j 0 = bt ((zs.take len).map ub) j := by
      have hj' : j < zs.length := by omega
      have e1 : zs.getD j 0 = zs[j] := by rw [List.getD_eq_getElem?_getD, List.getElem?_eq_getElem hj']; rfl
      have e2 : ((zs.take len).map ub).getD j 0 = ub zs[j] := by
        rw [List.getD_eq_getElem?_getD, List.getElem?_map, List.getElem?_take, if_pos hj, List.getElem?_eq_getElem hj']
        rfl
      unfold bt
      rw [e2, ub_val, e1]
      rw [e1] at hb
      omega
    rw [e]

theorem args_stay : ∀ {ts : List TypeId} {vs : List Value} {ds : List (DataW H)} {ps : List MemPlace} {W W' : World}, laidOutB P = true → ts.all (fun t => P.readableRec t && decide (t < P.types.size)) = true →
    DataW.TrodAll enc P W 0 (fun _ => true) true ts vs ds ps → Below W.heap.size W W' → DataW.TrodAll enc P W' 0 (fun b => decide (b < W.heap.size)) true ts vs ds ps
  | [], vs, ds, ps, W, W', _, _, h, _ => by
    obtain ⟨rfl, rfl, rfl⟩ := trodAll_nil h
    exact trodAll_mk0
  | t :: ts, vs, ds, ps, W, W', hl, hr, h, hb => by
    simp only [List.all_cons, Bool.and_eq_true, decide_eq_true_eq] at hr
    obtain ⟨v, vs', d, ds', p, q, rfl, rfl, rfl, h1, h2⟩ := trodAll_cons h
    have hlt : ∀ x ∈ p, x.block < W.heap.size := by obtain ⟨m, hm⟩ := h1; exact DataW.trod_lt m _ _ _ hm
    exact trodAll_cons_mk (Below.trod hl hr.1.1 hr.1.2 h1 hb hlt) (args_stay hl (by simpa using hr.2) h2 hb)
theorem law_post {f : Func} {s : ChangeSpec} {W W' : World} {args : Array Value} {ds : List (DataW H)} {before : List MemPlace} {tb : TypeId} (hb' : P.underlying tb = some .bool) (hres : f.resultTypes = #[tb]) (hl : laidOutB P = true)
    (hr : f.params.toList.all (fun t => P.readableRec t && decide (t < P.types.size)) = true) (hvars : s.vars = [])
    (hfn : s.fn H (ds ++ []) = { results := [.lit (.bool true)], args := ds }) (hW : DataW.Whole enc P f.params.toList s.vars false W args.toList ds [] before) (hb : Below W.heap.size W W') :
    s.post enc P f false true false false W args (.bool true) W' := by
  have hW2 := hW
  obtain ⟨p, q, hA, hV, rfl, hfz, hnd⟩ := hW
  rw [hvars] at hV
  obtain ⟨_, rfl⟩ := trodVars_none hV
  refine ⟨_, _, _, [], p, [], hW2, ?_, ?_, ?_, hb.frame _, fun h => by cases h⟩
  · rw [hfn, hres]
    exact trodAll_mk1 (shut_bool hb' _)
  · rw [hfn]
    exact args_stay hl hr hA hb
  · rw [hfn, hvars]
    rfl
end
end Go.Proofs.Ythgoffbfgdgkpaa

namespace Go.Proofs.Ythgoffbfgdgkpaa
open Go.ChangeShapes Go.WideShapes Go.ChangeAt Go.RowKit Go.Deep
set_option linter.unusedVariables false
set_option maxRecDepth 100000

section
variable {H : Type} {enc : TypeId × Value → H} {P : Program} {w : World} {base : Nat} {held : Bool} {spare : Nat → Bool}
theorem open_struct {r : Reach} {b0 : Nat} {t : TypeId} {fs : Array Field} {v : Value} {d : DataW H} {ps : List MemPlace} (hs : P.underlying t = some (.struct fs)) (hone : oneCellFields P fs = true)
    (hv : Value.okWide P w r b0 t v) (h : DataW.Trod enc P w base spare held t v d ps) :
    ∃ (cs : List Value) (xs : List (DataW H × List MemPlace)) (n : Nat), v = .agg cs.toArray ∧ cs.length = P.cellsOf t ∧ d = .agg (xs.map (·.1)) ∧ xs.length = fs.size ∧
      ∀ i f, fs[i]? = some f → DataW.trod enc P w base spare held n f.type ((cs.drop i).take 1) = xs[i]? := by
  obtain ⟨cs, rfl, hsz⟩ := okWide_struct hs hv
  obtain ⟨fuel, hf⟩ := h
  obtain ⟨xs, n, _, hx, hl, hxl, hi⟩ := DataW.trod_struct hs hf
  simp only [Prod.mk.injEq] at hx
  refine ⟨cs.toList, xs, n, by simp, by simpa using hsz, hx.1, hxl, fun i f hfi => ?_⟩
  have h1 := hi i f hfi
  obtain ⟨o, k⟩ := hone_of hone i f hfi
  simpa [Value.cells, o, k] using h1
theorem list9 {α : Type} {l : List α} (h : l.length = 9) : ∃ a b c d e f g i j, l = [a, b, c, d, e, f, g, i, j] := by
  match l, h with
  | [a, b, c, d, e, f, g, i, j], _ => exact ⟨a, b, c, d, e, f, g, i, j, rfl⟩
theorem slice_small {t e : TypeId} {n : Nat} {y : DataW H} (ht : P.underlying t = some (.slice e)) (hb : P.bytesOf e = 1) (hw : ∀ m ∈ y.weights P t, m ≤ reachBytes) (hd : (y = .nil ∧ n = 0) ∨ ∃ es sp, y = .slice es sp ∧ es.length = n) : n ≤ 200000000000000 := by
  rcases hd with ⟨_, h⟩ | ⟨es, sp, rfl, hn⟩
  · omega
  · have h1 := hw ((es.length + sp.length) * P.bytesOf e) (by simp [DataW.weights, ht])
    rw [hb] at h1
    simp only [reachBytes] at h1
    omega
theorem trod_byte {t : TypeId} {n : Nat} {v : Value} {y : DataW H × List MemPlace} (ht : P.underlying t = some (.int .u8)) (h : DataW.trod enc P w base spare held n t [v] = some y) : ∃ a, v = .int .u8 a ∧ 0 ≤ a ∧ a ≤ 255 := by
  obtain ⟨a, e, -, hw⟩ := DataW.trod_int ht h
  injection e with e
  exact ⟨a, e, by simpa [Lit.wf, IntKind.min, IntKind.max, IntKind.signed, IntKind.bits] using hw⟩
theorem trod_u16 {t : TypeId} {n : Nat} {v : Value} {y : DataW H × List MemPlace} (ht : P.underlying t = some (.int .u16)) (h : DataW.trod enc P w base spare held n t [v] = some y) : ∃ a, v = .int .u16 a ∧ 0 ≤ a ∧ a ≤ 65535 := by
  obtain ⟨a, e, -, hw⟩ := DataW.trod_int ht h
  injection e with e
  exact ⟨a, e, by simpa [Lit.wf, IntKind.min, IntKind.max, IntKind.signed, IntKind.bits] using hw⟩
theorem trod_u32 {t : TypeId} {n : Nat} {v : Value} {y : DataW H × List MemPlace} (ht : P.underlying t = some (.int .u32)) (h : DataW.trod enc P w base spare held n t [v] = some y) : ∃ a, v = .int .u32 a ∧ 0 ≤ a ∧ a ≤ 4294967295 := by
  obtain ⟨a, e, -, hw⟩ := DataW.trod_int ht h
  injection e with e
  exact ⟨a, e, by simpa [Lit.wf, IntKind.min, IntKind.max, IntKind.signed, IntKind.bits] using hw⟩
theorem trod_yes {t : TypeId} {n : Nat} {v : Value} {y : DataW H × List MemPlace} (ht : P.underlying t = some .bool) (h : DataW.trod enc P w base spare held n t [v] = some y) : ∃ b, v = .bool b := by
  obtain ⟨b, e, -⟩ := DataW.trod_bool ht h
  injection e with e
  exact ⟨b, e⟩
theorem trod_bytes {t e : TypeId} {n : Nat} {v : Value} {y : DataW H × List MemPlace} (ht : P.underlying t = some (.slice e)) (he : P.underlying e = some (.int .u8)) (hc : P.cellsOf e = 1) (hb : P.bytesOf e = 1)
    (hw : ∀ m ∈ y.1.weights P t, m ≤ reachBytes) (h : DataW.trod enc P w base spare held n t [v] = some y) : ∃ A n c l, v = .slice A n c ∧ Bs w A n c l := by
  obtain ⟨A, n, c, l, hv, hbs, hd⟩ := open_bs ht he hc h
  exact ⟨A, n, c, l, hv, hbs (slice_small ht hb hw hd)⟩
theorem weights_field {t : TypeId} {fs : Array Field} {parts : List (DataW H)} {j : Nat} {f : Field} {y : DataW H} (hs : P.underlying t = some (.struct fs)) (hsz : ∀ m ∈ (DataW.agg parts).weights P t, m ≤ reachBytes) (hf : fs[j]? = some f) (hy : parts[j]? = some y) :
    ∀ m ∈ y.weights P f.type, m ≤ reachBytes := by
  intro m hm
  refine hsz m ?_
  rw [DataW.weights, hs]
  exact DataW.weights_mem_each (j := j) (by simp [hf]) hy m hm
end
section
variable {H : Type} {enc : TypeId × Value → H} {w : World} {base : Nat} {held : Bool} {spare : Nat → Bool}
theorem open_pkt {r : Reach} {b0 : Nat} {v : Value} {d : DataW H} {ps : List MemPlace} (hval : Value.okWide Try.prog w r b0 26 v) (hd : DataW.Trod enc Try.prog w base spare held 26 v d ps)
    (hsz : ∀ m ∈ d.weights Try.prog 26, m ≤ reachBytes) :
    ∃ (p : Pkt) (A1 : Option Addr) (n1 c1 : Nat) (A2 : Option Addr) (n2 c2 : Nat), v = (.agg #[.int .u8 (p).tos, .int .u16 (p).id, .bool (p).keep, .int .u8 (p).ttl, .int .u8 (p).proto, .int .u32 (p).src, .int .u32 (p).dst, .slice A1 n1 c1, .slice A2 n2 c2]) ∧ p.Ok ∧ Bs w A1 n1 c1 p.opt ∧ Bs w A2 n2 c2 p.dat := by
  have hu := Try.underlying26
  obtain ⟨cs, xs, n, rfl, hcl, rfl, hxl, hi⟩ := open_struct hu (by kernel_rfl) hval hd
  rw [show (Try.prog.cellsOf 26) = 9 from by kernel_rfl] at hcl
  obtain ⟨v0, v1, v2, v3, v4, v5, v6, v7, v8, rfl⟩ := list9 hcl
  obtain ⟨y0, y1, y2, y3, y4, y5, y6, y7, y8, rfl⟩ := list9 (by simpa using hxl)
  obtain ⟨a0, rfl, b0l, b0h⟩ := trod_byte (t := 5) Try.underlying5 (by simpa using hi 0 _ rfl)
  obtain ⟨a1, rfl, b1l, b1h⟩ := trod_u16 (t := 22) Try.underlying22 (by simpa using hi 1 _ rfl)
  obtain ⟨a2, rfl⟩ := trod_yes (t := 4) Try.underlying4 (by simpa using hi 2 _ rfl)
  obtain ⟨a3, rfl, b3l, b3h⟩ := trod_byte (t := 5) Try.underlying5 (by simpa using hi 3 _ rfl)
  obtain ⟨a4, rfl, b4l, b4h⟩ := trod_byte (t := 5) Try.underlying5 (by simpa using hi 4 _ rfl)
  obtain ⟨a5, rfl, b5l, b5h⟩ := trod_u32 (t := 23) Try.underlying23 (by simpa using hi 5 _ rfl)
  obtain ⟨a6, rfl, b6l, b6h⟩ := trod_u32 (t := 23) Try.underlying23 (by simpa using hi 6 _ rfl)
  obtain ⟨A1, n1, c1, l1, rfl, k1⟩ := trod_bytes (t := 24) Try.underlying24 Try.underlying5 (by kernel_rfl) (by kernel_rfl) (weights_field (j := 7) (y := y7.1) hu hsz rfl (by simp)) (by simpa using hi 7 _ rfl)
  obtain ⟨A2, n2, c2, l2, rfl, k2⟩ := trod_bytes (t := 24) Try.underlying24 Try.underlying5 (by kernel_rfl) (by kernel_rfl) (weights_field (j := 8) (y := y8.1) hu hsz rfl (by simp)) (by simpa using hi 8 _ rfl)
  exact ⟨⟨a0, a1, a2, a3, a4, a5, a6, l1, l2⟩, A1, n1, c1, A2, n2, c2, rfl, ⟨⟨b0l, b0h⟩, ⟨b1l, b1h⟩, ⟨b3l, b3h⟩, ⟨b4l, b4h⟩, ⟨b5l, b5h⟩, ⟨b6l, b6h⟩⟩, k1, k2⟩
end
end Go.Proofs.Ythgoffbfgdgkpaa

namespace Go.Proofs.Ythgoffbfgdgkpaa
open Go.RowKit
set_option linter.unusedVariables false
set_option linter.unusedSimpArgs false
set_option maxHeartbeats 8000000
set_option maxRecDepth 100000

theorem of_echo (p : Pkt) (m : Msg) (hm : m.Ok) : ofE { p with proto := 1, dat := mS m } = (if isEchoM m = false then 12 else 0) ∧ ofT { p with proto := 1, dat := mS m } = (if isEchoM m = false then zT else ⟨1, p.src, p.dst, m.rest / 65536, m.rest / 65536⟩) := by
  obtain ⟨h1, h2⟩ := ic_back p m hm
  unfold ofE ofT
  rw [h1, h2]
  unfold picE tuP
  cases isEchoM m <;> simp
theorem other_ways (x : Int) : ((x != 1) = true ∧ (x != 6) = true ∧ (x != 17) = true ∧ (x != 47) = true) ∨ (x != 1) = false ∨ ((x != 1) = true ∧ (x != 6) = false) ∨ ((x != 1) = true ∧ (x != 6) = true ∧ (x != 17) = false) ∨ ((x != 1) = true ∧ (x != 6) = true ∧ (x != 17) = true ∧ (x != 47) = false) := by
  cases h1 : x != 1 <;> cases h2 : x != 6 <;> cases h3 : x != 17 <;> cases h4 : x != 47 <;> simp

theorem tupleOthers_walk (w : World) (p : Pkt) (hp : p.Ok) (A1 : Option Addr) (n1 c1 : Nat) (A2 : Option Addr) (n2 c2 : Nat) (k1 : Bs w A1 n1 c1 p.opt) (k2 : Bs w A2 n2 c2 p.dat) (m : Msg) (hm : m.Ok) (A3 : Option Addr) (n3 c3 : Nat) (k3 : Bs w A3 n3 c3 m.dat) (hn3 : n3 ≤ 140737488351232) :
    Calls Try.prog 7 #[(.agg #[.int .u8 (p).tos, .int .u16 (p).id, .bool (p).keep, .int .u8 (p).ttl, .int .u8 (p).proto, .int .u32 (p).src, .int .u32 (p).dst, .slice A1 n1 c1, .slice A2 n2 c2]), (.agg #[.int .u8 (m).ty, .int .u8 (m).code, .int .u32 (m).rest, .slice A3 n3 c3])] w fun e w' => e = .returned (.bool true) ∧ Below w.heap.size w w' := by
  have cb0 := fun W k1 k3 => rbicmp_any p A1 n1 c1 A2 n2 c2 m hm A3 n3 c3 W k1 k3
  have ce := fun W => risecho_any m A3 n3 c3 W
  have coA := fun W h6 h17 h1 h47 => of_no p A1 n1 c1 A2 n2 c2 W h6 h17 h1 h47
  have l3 := k3.len
  rw [l3] at cb0
  obtain ⟨E, hE⟩ : ∃ E, wiE p (8 + n3) = E := ⟨_, rfl⟩
  obtain ⟨Q, hQ⟩ : ∃ Q, withP p 1 (mS m) = Q := ⟨_, rfl⟩
  have cb : ∀ W, Bs W A1 n1 c1 p.opt → Bs W A3 n3 c3 m.dat → Calls Try.prog 21 #[(.agg #[.int .u8 (p).tos, .int .u16 (p).id, .bool (p).keep, .int .u8 (p).ttl, .int .u8 (p).proto, .int .u32 (p).src, .int .u32 (p).dst, .slice A1 n1 c1, .slice A2 n2 c2]), (.agg #[.int .u8 (m).ty, .int .u8 (m).code, .int .u32 (m).rest, .slice A3 n3 c3])] W fun e w' => ∃ C1 e1 f1 C2 e2 f2, e = .returned (.tuple #[(.agg #[.int .u8 (Q).tos, .int .u16 (Q).id, .bool (Q).keep, .int .u8 (Q).ttl, .int .u8 (Q).proto, .int .u32 (Q).src, .int .u32 (Q).dst, .slice C1 e1 f1, .slice C2 e2 f2]), .int .i64 E]) ∧ Own w' W.heap.size 5 C2 e2 f2 Q.dat ∧ Below W.heap.size W w' := fun W k k' => by
    refine (cb0 W k k').mono fun e w' hq => ?_
    obtain ⟨C1, e1, f1, C2, e2, f2, rfl, h1, h2, h3⟩ := hq.out
    rw [hE, hQ]
    rw [hQ] at h2
    exact ⟨C1, e1, f1, C2, e2, f2, rfl, h2, h3⟩
  obtain ⟨b, hb⟩ : ∃ b, isEchoM m = b := ⟨_, rfl⟩
  rw [hb] at ce
  obtain ⟨n, hn⟩ : ∃ n, m.rest / 65536 = n := ⟨_, rfl⟩
  obtain ⟨r0, r1⟩ := hm.rest
  have nb : 0 ≤ n ∧ n ≤ 65535 := by omega
  obtain ⟨n0, n1'⟩ := nb
  have hQ0 : E = 0 → Q = { p with proto := 1, dat := mS m } ∧ 8 + n3 ≤ 65535 := fun h => by
    rw [h] at hE
    have h2 := wiE_zero hE
    rw [← hQ]
    unfold withP
    rw [mS_len, l3, hE, if_pos rfl]
    exact ⟨rfl, by omega⟩
  have coq : E = 0 → ∀ W C1 e1 f1 C2 e2 f2, Bs W C2 e2 f2 Q.dat → Calls Try.prog 10 #[(.agg #[.int .u8 (Q).tos, .int .u16 (Q).id, .bool (Q).keep, .int .u8 (Q).ttl, .int .u8 (Q).proto, .int .u32 (Q).src, .int .u32 (Q).dst, .slice C1 e1 f1, .slice C2 e2 f2])] W (TtPost W (if b = false then zT else ⟨1, p.src, p.dst, n, n⟩) (if b = false then 12 else 0)) := fun h W C1 e1 f1 C2 e2 f2 k => by
    obtain ⟨hq, -⟩ := hQ0 h
    have h1 := of_icmp Q C1 e1 f1 C2 e2 f2 W k (by rw [hq])
    have h2 := of_echo p m hm
    rw [hb, hn] at h2
    obtain ⟨h3, h4⟩ := ic_back p m hm
    have h5 : tuP Q ((icM Q).rest / 65536) ((icM Q).rest / 65536) (picE (icE Q) (icM Q)) = ofT Q := by rw [hq]; rfl
    have h6 : picE (icE Q) (icM Q) = ofE Q := by rw [hq]; rfl
    rw [h5, h6, hq, h2.1, h2.2, ← hq] at h1
    exact h1
  clear hQ0 cb0 l3 hE hQ hb hm hp
  obtain ⟨k, hk⟩ : ∃ k : Nat, w.heap.size = k := ⟨_, rfl⟩
  obtain ⟨w1, hw1⟩ : ∃ W, ((w.alloc (.cells #[.int .u8 (p).tos, .int .u16 (p).id, .bool (p).keep, .int .u8 (p).ttl, .int .u8 (p).proto, .int .u32 (p).src, .int .u32 (p).dst, .slice A1 n1 c1, .slice A2 n2 c2] 26)).alloc (.cells #[.int .u8 (m).ty, .int .u8 (m).code, .int .u32 (m).rest, .slice A3 n3 c3] 49)) = W := ⟨_, rfl⟩
  have P1 : Blk w1 k #[.int .u8 (p).tos, .int .u16 (p).id, .bool (p).keep, .int .u8 (p).ttl, .int .u8 (p).proto, .int .u32 (p).src, .int .u32 (p).dst, .slice A1 n1 c1, .slice A2 n2 c2] 26 := by rw [← hw1]; exact ((blk_new _ _ _ k (by simp [hk])).alloc _)
  have M1 : Blk w1 (k + 1) #[.int .u8 (m).ty, .int .u8 (m).code, .int .u32 (m).rest, .slice A3 n3 c3] 49 := by rw [← hw1]; exact (blk_new _ _ _ (k + 1) (by simp [hk]))
  have R1 : Below w.heap.size w w1 := by rw [← hw1]; (repeat (first | with_reducible exact Below.refl _ _ | with_reducible refine below_drew ?_ | with_reducible refine below_drewN ?_ _ | with_reducible refine below_alloc ?_ (Nat.le_refl _) _ | with_reducible refine Below.setCell ?_ (by first | exact Nat.le_refl _ | (simp only []; omega)) _ | with_reducible assumption))
  have Pc1 := P1.cell
  have Mc1 := M1.cell
  have Pl1 := P1.lt
  have Ml1 := M1.lt
  have x1 := (k1).below R1
  have y1 := (k3).below R1
  rcases other_ways p.proto with ⟨h1, h6, h17, h47⟩ | h1 | ⟨h1, h6⟩ | ⟨h1, h6, h17⟩ | ⟨h1, h6, h17, h47⟩
  · have coA' := fun W => coA W (by simpa using h6) (by simpa using h17) (by simpa using h1) (by simpa using h47)
    clear coA
    by_cases h0 : E = 0
    · subst h0
      have coq := coq rfl
      cases b
      · have coq' : ∀ W C1 e1 f1 C2 e2 f2, Bs W C2 e2 f2 Q.dat → Calls Try.prog 10 #[(.agg #[.int .u8 (Q).tos, .int .u16 (Q).id, .bool (Q).keep, .int .u8 (Q).ttl, .int .u8 (Q).proto, .int .u32 (Q).src, .int .u32 (Q).dst, .slice C1 e1 f1, .slice C2 e2 f2])] W fun e w' => e = .returned (.tuple #[.agg #[.int .u8 0, .int .u32 0, .int .u32 0, .int .u16 0, .int .u16 0], .int .i64 12]) ∧ Below W.heap.size W w' := fun W C1 e1 f1 C2 e2 f2 k => (coq W C1 e1 f1 C2 e2 f2 k).mono fun e w' h => h.out
        clear coq
        go_enter Try.func7, Try.ntmps7
        go_wp2_with (first
        | (go_at_call 21; ((with_reducible refine (cb w1 x1 y1).mono ?_); rintro e u2 ⟨C1, e1, f1, C2, e2, f2, rfl, O2, hB2⟩); (obtain ⟨w2, hw2⟩ : ∃ W, u2.alloc (.cells #[.int .u8 (Q).tos, .int .u16 (Q).id, .bool (Q).keep, .int .u8 (Q).ttl, .int .u8 (Q).proto, .int .u32 (Q).src, .int .u32 (Q).dst, .slice C1 e1 f1, .slice C2 e2 f2] 26) = W := ⟨_, rfl⟩); have V2 : Below u2.heap.size u2 w2 := (by rw [← hw2]; (repeat (first | with_reducible exact Below.refl _ _ | with_reducible refine below_drew ?_ | with_reducible refine below_drewN ?_ _ | with_reducible refine below_alloc ?_ (Nat.le_refl _) _ | with_reducible refine Below.setCell ?_ (by first | exact Nat.le_refl _ | (simp only []; omega)) _ | with_reducible assumption))); (obtain ⟨kQ2, hkQ2⟩ : ∃ k : Nat, u2.heap.size = k := ⟨_, rfl⟩); have Q2 : Blk w2 kQ2 #[.int .u8 (Q).tos, .int .u16 (Q).id, .bool (Q).keep, .int .u8 (Q).ttl, .int .u8 (Q).proto, .int .u32 (Q).src, .int .u32 (Q).dst, .slice C1 e1 f1, .slice C2 e2 f2] 26 := (by rw [← hw2]; exact blk_new u2 _ _ _ hkQ2); have Qc2 := Q2.cell; have T2 := below_then hB2 V2; have z2 := (O2.bs).below V2; have P2 := P1.below T2; have Pc2 := P2.cell; clear Pc1; have M2 := M1.below T2; have Mc2 := M2.cell; clear Mc1; have x2 := x1.below T2; have y2 := y1.below T2; have R2 := below_then R1 T2)
        | (go_at_call 10; ((with_reducible refine (coA' w2).mono ?_); rintro e u3 ⟨⟨rfl, hB3⟩⟩); (obtain ⟨w3, hw3⟩ : ∃ W, u3.alloc (.cells #[.int .u8 0, .int .u32 0, .int .u32 0, .int .u16 0, .int .u16 0] 28) = W := ⟨_, rfl⟩); have V3 : Below u3.heap.size u3 w3 := (by rw [← hw3]; (repeat (first | with_reducible exact Below.refl _ _ | with_reducible refine below_drew ?_ | with_reducible refine below_drewN ?_ _ | with_reducible refine below_alloc ?_ (Nat.le_refl _) _ | with_reducible refine Below.setCell ?_ (by first | exact Nat.le_refl _ | (simp only []; omega)) _ | with_reducible assumption))); (obtain ⟨kJ3, hkJ3⟩ : ∃ k : Nat, u3.heap.size = k := ⟨_, rfl⟩); have J3 : Blk w3 kJ3 #[.int .u8 0, .int .u32 0, .int .u32 0, .int .u16 0, .int .u16 0] 28 := (by rw [← hw3]; exact blk_new u3 _ _ _ hkJ3); have Jc3 := J3.cell; have T3 := below_then hB3 V3; have P3 := P2.below T3; have Pc3 := P3.cell; clear Pc2; have M3 := M2.below T3; have Mc3 := M3.cell; clear Mc2; have Q3 := Q2.below T3; have Qc3 := Q3.cell; clear Qc2; have x3 := x2.below T3; have y3 := y2.below T3; have z3 := z2.below T3; have R3 := below_then R2 T3; have ji0 : w3.setCell ⟨kJ3, 0, none⟩ (.int .u8 0) = w3 := J3.idle rfl; have ji1 : w3.setCell ⟨kJ3, 1, none⟩ (.int .u32 0) = w3 := J3.idle rfl; have ji2 : w3.setCell ⟨kJ3, 2, none⟩ (.int .u32 0) = w3 := J3.idle rfl; have ji3 : w3.setCell ⟨kJ3, 3, none⟩ (.int .u16 0) = w3 := J3.idle rfl; have ji4 : w3.setCell ⟨kJ3, 4, none⟩ (.int .u16 0) = w3 := J3.idle rfl)
        | (go_at_call 10; ((with_reducible refine (coq' w3 C1 e1 f1 C2 e2 f2 z3).mono ?_); rintro e u4 ⟨rfl, hB4⟩); (obtain ⟨w4, hw4⟩ : ∃ W, u4.alloc (.cells #[.int .u8 0, .int .u32 0, .int .u32 0, .int .u16 0, .int .u16 0] 28) = W := ⟨_, rfl⟩); have V4 : Below u4.heap.size u4 w4 := (by rw [← hw4]; (repeat (first | with_reducible exact Below.refl _ _ | with_reducible refine below_drew ?_ | with_reducible refine below_drewN ?_ _ | with_reducible refine below_alloc ?_ (Nat.le_refl _) _ | with_reducible refine Below.setCell ?_ (by first | exact Nat.le_refl _ | (simp only []; omega)) _ | with_reducible assumption))); (obtain ⟨kU4, hkU4⟩ : ∃ k : Nat, u4.heap.size = k := ⟨_, rfl⟩); have U4 : Blk w4 kU4 #[.int .u8 0, .int .u32 0, .int .u32 0, .int .u16 0, .int .u16 0] 28 := (by rw [← hw4]; exact blk_new u4 _ _ _ hkU4); have Uc4 := U4.cell; have T4 := below_then hB4 V4; have P4 := P3.below T4; have Pc4 := P4.cell; clear Pc3; have M4 := M3.below T4; have Mc4 := M4.cell; clear Mc3; have Q4 := Q3.below T4; have Qc4 := Q4.cell; clear Qc3; have J4 := J3.below T4; have Jc4 := J4.cell; clear Jc3; have x4 := x3.below T4; have y4 := y3.below T4; have z4 := z3.below T4; have R4 := below_then R3 T4; have ui0 : w4.setCell ⟨kU4, 0, none⟩ (.int .u8 0) = w4 := U4.idle rfl; have ui1 : w4.setCell ⟨kU4, 1, none⟩ (.int .u32 0) = w4 := U4.idle rfl; have ui2 : w4.setCell ⟨kU4, 2, none⟩ (.int .u32 0) = w4 := U4.idle rfl; have ui3 : w4.setCell ⟨kU4, 3, none⟩ (.int .u16 0) = w4 := U4.idle rfl; have ui4 : w4.setCell ⟨kU4, 4, none⟩ (.int .u16 0) = w4 := U4.idle rfl)
        | (go_at_call 23; ((with_reducible refine (ce w4).mono ?_); rintro e w5 ⟨rfl, hB5⟩); have P5 := P4.below hB5; have Pc5 := P5.cell; clear Pc4; have M5 := M4.below hB5; have Mc5 := M5.cell; clear Mc4; have Q5 := Q4.below hB5; have Qc5 := Q5.cell; clear Qc4; have J5 := J4.below hB5; have Jc5 := J5.cell; clear Jc4; have U5 := U4.below hB5; have Uc5 := U5.cell; clear Uc4; have x5 := x4.below hB5; have y5 := y4.below hB5; have z5 := z4.below hB5; have R5 := below_then R4 hB5)
        | (go_at_call 12; ((with_reducible refine (live05_any w5).mono ?_); rintro e w6 ⟨rfl, hB6⟩); have P6 := P5.below hB6; have Pc6 := P6.cell; clear Pc5; have M6 := M5.below hB6; have Mc6 := M6.cell; clear Mc5; have Q6 := Q5.below hB6; have Qc6 := Q6.cell; clear Qc5; have J6 := J5.below hB6; have Jc6 := J6.cell; clear Jc5; have U6 := U5.below hB6; have Uc6 := U6.cell; clear Uc5; have x6 := x5.below hB6; have y6 := y5.below hB6; have z6 := z5.below hB6; have R6 := below_then R5 hB6))
        go_ret
        exact ⟨rfl, R6⟩

      · have coq' : ∀ W C1 e1 f1 C2 e2 f2, Bs W C2 e2 f2 Q.dat → Calls Try.prog 10 #[(.agg #[.int .u8 (Q).tos, .int .u16 (Q).id, .bool (Q).keep, .int .u8 (Q).ttl, .int .u8 (Q).proto, .int .u32 (Q).src, .int .u32 (Q).dst, .slice C1 e1 f1, .slice C2 e2 f2])] W fun e w' => e = .returned (.tuple #[.agg #[.int .u8 1, .int .u32 p.src, .int .u32 p.dst, .int .u16 n, .int .u16 n], .int .i64 0]) ∧ Below W.heap.size W w' := fun W C1 e1 f1 C2 e2 f2 k => (coq W C1 e1 f1 C2 e2 f2 k).mono fun e w' h => h.out
        clear coq
        go_enter Try.func7, Try.ntmps7
        go_wp2_with (first
        | (go_at_call 21; ((with_reducible refine (cb w1 x1 y1).mono ?_); rintro e u2 ⟨C1, e1, f1, C2, e2, f2, rfl, O2, hB2⟩); (obtain ⟨w2, hw2⟩ : ∃ W, u2.alloc (.cells #[.int .u8 (Q).tos, .int .u16 (Q).id, .bool (Q).keep, .int .u8 (Q).ttl, .int .u8 (Q).proto, .int .u32 (Q).src, .int .u32 (Q).dst, .slice C1 e1 f1, .slice C2 e2 f2] 26) = W := ⟨_, rfl⟩); have V2 : Below u2.heap.size u2 w2 := (by rw [← hw2]; (repeat (first | with_reducible exact Below.refl _ _ | with_reducible refine below_drew ?_ | with_reducible refine below_drewN ?_ _ | with_reducible refine below_alloc ?_ (Nat.le_refl _) _ | with_reducible refine Below.setCell ?_ (by first | exact Nat.le_refl _ | (simp only []; omega)) _ | with_reducible assumption))); (obtain ⟨kQ2, hkQ2⟩ : ∃ k : Nat, u2.heap.size = k := ⟨_, rfl⟩); have Q2 : Blk w2 kQ2 #[.int .u8 (Q).tos, .int .u16 (Q).id, .bool (Q).keep, .int .u8 (Q).ttl, .int .u8 (Q).proto, .int .u32 (Q).src, .int .u32 (Q).dst, .slice C1 e1 f1, .slice C2 e2 f2] 26 := (by rw [← hw2]; exact blk_new u2 _ _ _ hkQ2); have Qc2 := Q2.cell; have T2 := below_then hB2 V2; have z2 := (O2.bs).below V2; have P2 := P1.below T2; have Pc2 := P2.cell; clear Pc1; have M2 := M1.below T2; have Mc2 := M2.cell; clear Mc1; have x2 := x1.below T2; have y2 := y1.below T2; have R2 := below_then R1 T2)
        | (go_at_call 10; ((with_reducible refine (coA' w2).mono ?_); rintro e u3 ⟨⟨rfl, hB3⟩⟩); (obtain ⟨w3, hw3⟩ : ∃ W, u3.alloc (.cells #[.int .u8 0, .int .u32 0, .int .u32 0, .int .u16 0, .int .u16 0] 28) = W := ⟨_, rfl⟩); have V3 : Below u3.heap.size u3 w3 := (by rw [← hw3]; (repeat (first | with_reducible exact Below.refl _ _ | with_reducible refine below_drew ?_ | with_reducible refine below_drewN ?_ _ | with_reducible refine below_alloc ?_ (Nat.le_refl _) _ | with_reducible refine Below.setCell ?_ (by first | exact Nat.le_refl _ | (simp only []; omega)) _ | with_reducible assumption))); (obtain ⟨kJ3, hkJ3⟩ : ∃ k : Nat, u3.heap.size = k := ⟨_, rfl⟩); have J3 : Blk w3 kJ3 #[.int .u8 0, .int .u32 0, .int .u32 0, .int .u16 0, .int .u16 0] 28 := (by rw [← hw3]; exact blk_new u3 _ _ _ hkJ3); have Jc3 := J3.cell; have T3 := below_then hB3 V3; have P3 := P2.below T3; have Pc3 := P3.cell; clear Pc2; have M3 := M2.below T3; have Mc3 := M3.cell; clear Mc2; have Q3 := Q2.below T3; have Qc3 := Q3.cell; clear Qc2; have x3 := x2.below T3; have y3 := y2.below T3; have z3 := z2.below T3; have R3 := below_then R2 T3; have ji0 : w3.setCell ⟨kJ3, 0, none⟩ (.int .u8 0) = w3 := J3.idle rfl; have ji1 : w3.setCell ⟨kJ3, 1, none⟩ (.int .u32 0) = w3 := J3.idle rfl; have ji2 : w3.setCell ⟨kJ3, 2, none⟩ (.int .u32 0) = w3 := J3.idle rfl; have ji3 : w3.setCell ⟨kJ3, 3, none⟩ (.int .u16 0) = w3 := J3.idle rfl; have ji4 : w3.setCell ⟨kJ3, 4, none⟩ (.int .u16 0) = w3 := J3.idle rfl)
        | (go_at_call 10; ((with_reducible refine (coq' w3 C1 e1 f1 C2 e2 f2 z3).mono ?_); rintro e u4 ⟨rfl, hB4⟩); (obtain ⟨w4, hw4⟩ : ∃ W, u4.alloc (.cells #[.int .u8 1, .int .u32 p.src, .int .u32 p.dst, .int .u16 n, .int .u16 n] 28) = W := ⟨_, rfl⟩); have V4 : Below u4.heap.size u4 w4 := (by rw [← hw4]; (repeat (first | with_reducible exact Below.refl _ _ | with_reducible refine below_drew ?_ | with_reducible refine below_drewN ?_ _ | with_reducible refine below_alloc ?_ (Nat.le_refl _) _ | with_reducible refine Below.setCell ?_ (by first | exact Nat.le_refl _ | (simp only []; omega)) _ | with_reducible assumption))); (obtain ⟨kU4, hkU4⟩ : ∃ k : Nat, u4.heap.size = k := ⟨_, rfl⟩); have U4 : Blk w4 kU4 #[.int .u8 1, .int .u32 p.src, .int .u32 p.dst, .int .u16 n, .int .u16 n] 28 := (by rw [← hw4]; exact blk_new u4 _ _ _ hkU4); have Uc4 := U4.cell; have T4 := below_then hB4 V4; have P4 := P3.below T4; have Pc4 := P4.cell; clear Pc3; have M4 := M3.below T4; have Mc4 := M4.cell; clear Mc3; have Q4 := Q3.below T4; have Qc4 := Q4.cell; clear Qc3; have J4 := J3.below T4; have Jc4 := J4.cell; clear Jc3; have x4 := x3.below T4; have y4 := y3.below T4; have z4 := z3.below T4; have R4 := below_then R3 T4)
        | (go_at_call 23; ((with_reducible refine (ce w4).mono ?_); rintro e w5 ⟨rfl, hB5⟩); have P5 := P4.below hB5; have Pc5 := P5.cell; clear Pc4; have M5 := M4.below hB5; have Mc5 := M5.cell; clear Mc4; have Q5 := Q4.below hB5; have Qc5 := Q5.cell; clear Qc4; have J5 := J4.below hB5; have Jc5 := J5.cell; clear Jc4; have U5 := U4.below hB5; have Uc5 := U5.cell; clear Uc4; have x5 := x4.below hB5; have y5 := y4.below hB5; have z5 := z4.below hB5; have R5 := below_then R4 hB5)
        | (go_at_call 12; ((with_reducible refine (live05_any w5).mono ?_); rintro e w6 ⟨rfl, hB6⟩); have P6 := P5.below hB6; have Pc6 := P6.cell; clear Pc5; have M6 := M5.below hB6; have Mc6 := M6.cell; clear Mc5; have Q6 := Q5.below hB6; have Qc6 := Q6.cell; clear Qc5; have J6 := J5.below hB6; have Jc6 := J6.cell; clear Jc5; have U6 := U5.below hB6; have Uc6 := U6.cell; clear Uc5; have x6 := x5.below hB6; have y6 := y5.below hB6; have z6 := z5.below hB6; have R6 := below_then R5 hB6))
        go_ret
        exact ⟨rfl, R6⟩

    · have h0' : (E != 0) = true := by simpa using h0
      clear coq
      go_enter Try.func7, Try.ntmps7
      go_wp2_with (first
        | (go_at_call 21; ((with_reducible refine (cb w1 x1 y1).mono ?_); rintro e u2 ⟨C1, e1, f1, C2, e2, f2, rfl, O2, hB2⟩); (obtain ⟨w2, hw2⟩ : ∃ W, u2.alloc (.cells #[.int .u8 (Q).tos, .int .u16 (Q).id, .bool (Q).keep, .int .u8 (Q).ttl, .int .u8 (Q).proto, .int .u32 (Q).src, .int .u32 (Q).dst, .slice C1 e1 f1, .slice C2 e2 f2] 26) = W := ⟨_, rfl⟩); have V2 : Below u2.heap.size u2 w2 := (by rw [← hw2]; (repeat (first | with_reducible exact Below.refl _ _ | with_reducible refine below_drew ?_ | with_reducible refine below_drewN ?_ _ | with_reducible refine below_alloc ?_ (Nat.le_refl _) _ | with_reducible refine Below.setCell ?_ (by first | exact Nat.le_refl _ | (simp only []; omega)) _ | with_reducible assumption))); (obtain ⟨kQ2, hkQ2⟩ : ∃ k : Nat, u2.heap.size = k := ⟨_, rfl⟩); have Q2 : Blk w2 kQ2 #[.int .u8 (Q).tos, .int .u16 (Q).id, .bool (Q).keep, .int .u8 (Q).ttl, .int .u8 (Q).proto, .int .u32 (Q).src, .int .u32 (Q).dst, .slice C1 e1 f1, .slice C2 e2 f2] 26 := (by rw [← hw2]; exact blk_new u2 _ _ _ hkQ2); have Qc2 := Q2.cell; have T2 := below_then hB2 V2; have z2 := (O2.bs).below V2; have P2 := P1.below T2; have Pc2 := P2.cell; clear Pc1; have M2 := M1.below T2; have Mc2 := M2.cell; clear Mc1; have x2 := x1.below T2; have y2 := y1.below T2; have R2 := below_then R1 T2)
        | (go_at_call 10; ((with_reducible refine (coA' w2).mono ?_); rintro e u3 ⟨⟨rfl, hB3⟩⟩); (obtain ⟨w3, hw3⟩ : ∃ W, u3.alloc (.cells #[.int .u8 0, .int .u32 0, .int .u32 0, .int .u16 0, .int .u16 0] 28) = W := ⟨_, rfl⟩); have V3 : Below u3.heap.size u3 w3 := (by rw [← hw3]; (repeat (first | with_reducible exact Below.refl _ _ | with_reducible refine below_drew ?_ | with_reducible refine below_drewN ?_ _ | with_reducible refine below_alloc ?_ (Nat.le_refl _) _ | with_reducible refine Below.setCell ?_ (by first | exact Nat.le_refl _ | (simp only []; omega)) _ | with_reducible assumption))); (obtain ⟨kJ3, hkJ3⟩ : ∃ k : Nat, u3.heap.size = k := ⟨_, rfl⟩); have J3 : Blk w3 kJ3 #[.int .u8 0, .int .u32 0, .int .u32 0, .int .u16 0, .int .u16 0] 28 := (by rw [← hw3]; exact blk_new u3 _ _ _ hkJ3); have Jc3 := J3.cell; have T3 := below_then hB3 V3; have P3 := P2.below T3; have Pc3 := P3.cell; clear Pc2; have M3 := M2.below T3; have Mc3 := M3.cell; clear Mc2; have Q3 := Q2.below T3; have Qc3 := Q3.cell; clear Qc2; have x3 := x2.below T3; have y3 := y2.below T3; have z3 := z2.below T3; have R3 := below_then R2 T3; have ji0 : w3.setCell ⟨kJ3, 0, none⟩ (.int .u8 0) = w3 := J3.idle rfl; have ji1 : w3.setCell ⟨kJ3, 1, none⟩ (.int .u32 0) = w3 := J3.idle rfl; have ji2 : w3.setCell ⟨kJ3, 2, none⟩ (.int .u32 0) = w3 := J3.idle rfl; have ji3 : w3.setCell ⟨kJ3, 3, none⟩ (.int .u16 0) = w3 := J3.idle rfl; have ji4 : w3.setCell ⟨kJ3, 4, none⟩ (.int .u16 0) = w3 := J3.idle rfl)
        | (go_at_call 12; ((with_reducible refine (live05_any w3).mono ?_); rintro e w4 ⟨rfl, hB4⟩); have P4 := P3.below hB4; have Pc4 := P4.cell; clear Pc3; have M4 := M3.below hB4; have Mc4 := M4.cell; clear Mc3; have Q4 := Q3.below hB4; have Qc4 := Q4.cell; clear Qc3; have J4 := J3.below hB4; have Jc4 := J4.cell; clear Jc3; have x4 := x3.below hB4; have y4 := y3.below hB4; have z4 := z3.below hB4; have R4 := below_then R3 hB4))
      go_ret
      exact ⟨rfl, R4⟩

  · clear coA
    by_cases h0 : E = 0
    · subst h0
      have coq := coq rfl
      cases b
      · have coq' : ∀ W C1 e1 f1 C2 e2 f2, Bs W C2 e2 f2 Q.dat → Calls Try.prog 10 #[(.agg #[.int .u8 (Q).tos, .int .u16 (Q).id, .bool (Q).keep, .int .u8 (Q).ttl, .int .u8 (Q).proto, .int .u32 (Q).src, .int .u32 (Q).dst, .slice C1 e1 f1, .slice C2 e2 f2])] W fun e w' => e = .returned (.tuple #[.agg #[.int .u8 0, .int .u32 0, .int .u32 0, .int .u16 0, .int .u16 0], .int .i64 12]) ∧ Below W.heap.size W w' := fun W C1 e1 f1 C2 e2 f2 k => (coq W C1 e1 f1 C2 e2 f2 k).mono fun e w' h => h.out
        clear coq
        go_enter Try.func7, Try.ntmps7
        go_wp2_with (first
        | (go_at_call 21; ((with_reducible refine (cb w1 x1 y1).mono ?_); rintro e u2 ⟨C1, e1, f1, C2, e2, f2, rfl, O2, hB2⟩); (obtain ⟨w2, hw2⟩ : ∃ W, u2.alloc (.cells #[.int .u8 (Q).tos, .int .u16 (Q).id, .bool (Q).keep, .int .u8 (Q).ttl, .int .u8 (Q).proto, .int .u32 (Q).src, .int .u32 (Q).dst, .slice C1 e1 f1, .slice C2 e2 f2] 26) = W := ⟨_, rfl⟩); have V2 : Below u2.heap.size u2 w2 := (by rw [← hw2]; (repeat (first | with_reducible exact Below.refl _ _ | with_reducible refine below_drew ?_ | with_reducible refine below_drewN ?_ _ | with_reducible refine below_alloc ?_ (Nat.le_refl _) _ | with_reducible refine Below.setCell ?_ (by first | exact Nat.le_refl _ | (simp only []; omega)) _ | with_reducible assumption))); (obtain ⟨kQ2, hkQ2⟩ : ∃ k : Nat, u2.heap.size = k := ⟨_, rfl⟩); have Q2 : Blk w2 kQ2 #[.int .u8 (Q).tos, .int .u16 (Q).id, .bool (Q).keep, .int .u8 (Q).ttl, .int .u8 (Q).proto, .int .u32 (Q).src, .int .u32 (Q).dst, .slice C1 e1 f1, .slice C2 e2 f2] 26 := (by rw [← hw2]; exact blk_new u2 _ _ _ hkQ2); have Qc2 := Q2.cell; have T2 := below_then hB2 V2; have z2 := (O2.bs).below V2; have P2 := P1.below T2; have Pc2 := P2.cell; clear Pc1; have M2 := M1.below T2; have Mc2 := M2.cell; clear Mc1; have x2 := x1.below T2; have y2 := y1.below T2; have R2 := below_then R1 T2)
        | (go_at_call 10; ((with_reducible refine (coq' w2 C1 e1 f1 C2 e2 f2 z2).mono ?_); rintro e u3 ⟨rfl, hB3⟩); (obtain ⟨w3, hw3⟩ : ∃ W, u3.alloc (.cells #[.int .u8 0, .int .u32 0, .int .u32 0, .int .u16 0, .int .u16 0] 28) = W := ⟨_, rfl⟩); have V3 : Below u3.heap.size u3 w3 := (by rw [← hw3]; (repeat (first | with_reducible exact Below.refl _ _ | with_reducible refine below_drew ?_ | with_reducible refine below_drewN ?_ _ | with_reducible refine below_alloc ?_ (Nat.le_refl _) _ | with_reducible refine Below.setCell ?_ (by first | exact Nat.le_refl _ | (simp only []; omega)) _ | with_reducible assumption))); (obtain ⟨kU3, hkU3⟩ : ∃ k : Nat, u3.heap.size = k := ⟨_, rfl⟩); have U3 : Blk w3 kU3 #[.int .u8 0, .int .u32 0, .int .u32 0, .int .u16 0, .int .u16 0] 28 := (by rw [← hw3]; exact blk_new u3 _ _ _ hkU3); have Uc3 := U3.cell; have T3 := below_then hB3 V3; have P3 := P2.below T3; have Pc3 := P3.cell; clear Pc2; have M3 := M2.below T3; have Mc3 := M3.cell; clear Mc2; have Q3 := Q2.below T3; have Qc3 := Q3.cell; clear Qc2; have x3 := x2.below T3; have y3 := y2.below T3; have z3 := z2.below T3; have R3 := below_then R2 T3; have ui0 : w3.setCell ⟨kU3, 0, none⟩ (.int .u8 0) = w3 := U3.idle rfl; have ui1 : w3.setCell ⟨kU3, 1, none⟩ (.int .u32 0) = w3 := U3.idle rfl; have ui2 : w3.setCell ⟨kU3, 2, none⟩ (.int .u32 0) = w3 := U3.idle rfl; have ui3 : w3.setCell ⟨kU3, 3, none⟩ (.int .u16 0) = w3 := U3.idle rfl; have ui4 : w3.setCell ⟨kU3, 4, none⟩ (.int .u16 0) = w3 := U3.idle rfl)
        | (go_at_call 23; ((with_reducible refine (ce w3).mono ?_); rintro e w4 ⟨rfl, hB4⟩); have P4 := P3.below hB4; have Pc4 := P4.cell; clear Pc3; have M4 := M3.below hB4; have Mc4 := M4.cell; clear Mc3; have Q4 := Q3.below hB4; have Qc4 := Q4.cell; clear Qc3; have U4 := U3.below hB4; have Uc4 := U4.cell; clear Uc3; have x4 := x3.below hB4; have y4 := y3.below hB4; have z4 := z3.below hB4; have R4 := below_then R3 hB4)
        | (go_at_call 12; ((with_reducible refine (live05_any w4).mono ?_); rintro e w5 ⟨rfl, hB5⟩); have P5 := P4.below hB5; have Pc5 := P5.cell; clear Pc4; have M5 := M4.below hB5; have Mc5 := M5.cell; clear Mc4; have Q5 := Q4.below hB5; have Qc5 := Q5.cell; clear Qc4; have U5 := U4.below hB5; have Uc5 := U5.cell; clear Uc4; have x5 := x4.below hB5; have y5 := y4.below hB5; have z5 := z4.below hB5; have R5 := below_then R4 hB5))
        go_ret
        exact ⟨rfl, R5⟩

      · have coq' : ∀ W C1 e1 f1 C2 e2 f2, Bs W C2 e2 f2 Q.dat → Calls Try.prog 10 #[(.agg #[.int .u8 (Q).tos, .int .u16 (Q).id, .bool (Q).keep, .int .u8 (Q).ttl, .int .u8 (Q).proto, .int .u32 (Q).src, .int .u32 (Q).dst, .slice C1 e1 f1, .slice C2 e2 f2])] W fun e w' => e = .returned (.tuple #[.agg #[.int .u8 1, .int .u32 p.src, .int .u32 p.dst, .int .u16 n, .int .u16 n], .int .i64 0]) ∧ Below W.heap.size W w' := fun W C1 e1 f1 C2 e2 f2 k => (coq W C1 e1 f1 C2 e2 f2 k).mono fun e w' h => h.out
        clear coq
        go_enter Try.func7, Try.ntmps7
        go_wp2_with (first
        | (go_at_call 21; ((with_reducible refine (cb w1 x1 y1).mono ?_); rintro e u2 ⟨C1, e1, f1, C2, e2, f2, rfl, O2, hB2⟩); (obtain ⟨w2, hw2⟩ : ∃ W, u2.alloc (.cells #[.int .u8 (Q).tos, .int .u16 (Q).id, .bool (Q).keep, .int .u8 (Q).ttl, .int .u8 (Q).proto, .int .u32 (Q).src, .int .u32 (Q).dst, .slice C1 e1 f1, .slice C2 e2 f2] 26) = W := ⟨_, rfl⟩); have V2 : Below u2.heap.size u2 w2 := (by rw [← hw2]; (repeat (first | with_reducible exact Below.refl _ _ | with_reducible refine below_drew ?_ | with_reducible refine below_drewN ?_ _ | with_reducible refine below_alloc ?_ (Nat.le_refl _) _ | with_reducible refine Below.setCell ?_ (by first | exact Nat.le_refl _ | (simp only []; omega)) _ | with_reducible assumption))); (obtain ⟨kQ2, hkQ2⟩ : ∃ k : Nat, u2.heap.size = k := ⟨_, rfl⟩); have Q2 : Blk w2 kQ2 #[.int .u8 (Q).tos, .int .u16 (Q).id, .bool (Q).keep, .int .u8 (Q).ttl, .int .u8 (Q).proto, .int .u32 (Q).src, .int .u32 (Q).dst, .slice C1 e1 f1, .slice C2 e2 f2] 26 := (by rw [← hw2]; exact blk_new u2 _ _ _ hkQ2); have Qc2 := Q2.cell; have T2 := below_then hB2 V2; have z2 := (O2.bs).below V2; have P2 := P1.below T2; have Pc2 := P2.cell; clear Pc1; have M2 := M1.below T2; have Mc2 := M2.cell; clear Mc1; have x2 := x1.below T2; have y2 := y1.below T2; have R2 := below_then R1 T2)
        | (go_at_call 10; ((with_reducible refine (coq' w2 C1 e1 f1 C2 e2 f2 z2).mono ?_); rintro e u3 ⟨rfl, hB3⟩); (obtain ⟨w3, hw3⟩ : ∃ W, u3.alloc (.cells #[.int .u8 1, .int .u32 p.src, .int .u32 p.dst, .int .u16 n, .int .u16 n] 28) = W := ⟨_, rfl⟩); have V3 : Below u3.heap.size u3 w3 := (by rw [← hw3]; (repeat (first | with_reducible exact Below.refl _ _ | with_reducible refine below_drew ?_ | with_reducible refine below_drewN ?_ _ | with_reducible refine below_alloc ?_ (Nat.le_refl _) _ | with_reducible refine Below.setCell ?_ (by first | exact Nat.le_refl _ | (simp only []; omega)) _ | with_reducible assumption))); (obtain ⟨kU3, hkU3⟩ : ∃ k : Nat, u3.heap.size = k := ⟨_, rfl⟩); have U3 : Blk w3 kU3 #[.int .u8 1, .int .u32 p.src, .int .u32 p.dst, .int .u16 n, .int .u16 n] 28 := (by rw [← hw3]; exact blk_new u3 _ _ _ hkU3); have Uc3 := U3.cell; have T3 := below_then hB3 V3; have P3 := P2.below T3; have Pc3 := P3.cell; clear Pc2; have M3 := M2.below T3; have Mc3 := M3.cell; clear Mc2; have Q3 := Q2.below T3; have Qc3 := Q3.cell; clear Qc2; have x3 := x2.below T3; have y3 := y2.below T3; have z3 := z2.below T3; have R3 := below_then R2 T3)
        | (go_at_call 23; ((with_reducible refine (ce w3).mono ?_); rintro e w4 ⟨rfl, hB4⟩); have P4 := P3.below hB4; have Pc4 := P4.cell; clear Pc3; have M4 := M3.below hB4; have Mc4 := M4.cell; clear Mc3; have Q4 := Q3.below hB4; have Qc4 := Q4.cell; clear Qc3; have U4 := U3.below hB4; have Uc4 := U4.cell; clear Uc3; have x4 := x3.below hB4; have y4 := y3.below hB4; have z4 := z3.below hB4; have R4 := below_then R3 hB4)
        | (go_at_call 12; ((with_reducible refine (live05_any w4).mono ?_); rintro e w5 ⟨rfl, hB5⟩); have P5 := P4.below hB5; have Pc5 := P5.cell; clear Pc4; have M5 := M4.below hB5; have Mc5 := M5.cell; clear Mc4; have Q5 := Q4.below hB5; have Qc5 := Q5.cell; clear Qc4; have U5 := U4.below hB5; have Uc5 := U5.cell; clear Uc4; have x5 := x4.below hB5; have y5 := y4.below hB5; have z5 := z4.below hB5; have R5 := below_then R4 hB5))
        go_ret
        exact ⟨rfl, R5⟩

    · have h0' : (E != 0) = true := by simpa using h0
      clear coq
      go_enter Try.func7, Try.ntmps7
      go_wp2_with (first
        | (go_at_call 21; ((with_reducible refine (cb w1 x1 y1).mono ?_); rintro e u2 ⟨C1, e1, f1, C2, e2, f2, rfl, O2, hB2⟩); (obtain ⟨w2, hw2⟩ : ∃ W, u2.alloc (.cells #[.int .u8 (Q).tos, .int .u16 (Q).id, .bool (Q).keep, .int .u8 (Q).ttl, .int .u8 (Q).proto, .int .u32 (Q).src, .int .u32 (Q).dst, .slice C1 e1 f1, .slice C2 e2 f2] 26) = W := ⟨_, rfl⟩); have V2 : Below u2.heap.size u2 w2 := (by rw [← hw2]; (repeat (first | with_reducible exact Below.refl _ _ | with_reducible refine below_drew ?_ | with_reducible refine below_drewN ?_ _ | with_reducible refine below_alloc ?_ (Nat.le_refl _) _ | with_reducible refine Below.setCell ?_ (by first | exact Nat.le_refl _ | (simp only []; omega)) _ | with_reducible assumption))); (obtain ⟨kQ2, hkQ2⟩ : ∃ k : Nat, u2.heap.size = k := ⟨_, rfl⟩); have Q2 : Blk w2 kQ2 #[.int .u8 (Q).tos, .int .u16 (Q).id, .bool (Q).keep, .int .u8 (Q).ttl, .int .u8 (Q).proto, .int .u32 (Q).src, .int .u32 (Q).dst, .slice C1 e1 f1, .slice C2 e2 f2] 26 := (by rw [← hw2]; exact blk_new u2 _ _ _ hkQ2); have Qc2 := Q2.cell; have T2 := below_then hB2 V2; have z2 := (O2.bs).below V2; have P2 := P1.below T2; have Pc2 := P2.cell; clear Pc1; have M2 := M1.below T2; have Mc2 := M2.cell; clear Mc1; have x2 := x1.below T2; have y2 := y1.below T2; have R2 := below_then R1 T2)
        | (go_at_call 12; ((with_reducible refine (live05_any w2).mono ?_); rintro e w3 ⟨rfl, hB3⟩); have P3 := P2.below hB3; have Pc3 := P3.cell; clear Pc2; have M3 := M2.below hB3; have Mc3 := M3.cell; clear Mc2; have Q3 := Q2.below hB3; have Qc3 := Q3.cell; clear Qc2; have x3 := x2.below hB3; have y3 := y2.below hB3; have z3 := z2.below hB3; have R3 := below_then R2 hB3))
      go_ret
      exact ⟨rfl, R3⟩

  · clear coA
    by_cases h0 : E = 0
    · subst h0
      have coq := coq rfl
      cases b
      · have coq' : ∀ W C1 e1 f1 C2 e2 f2, Bs W C2 e2 f2 Q.dat → Calls Try.prog 10 #[(.agg #[.int .u8 (Q).tos, .int .u16 (Q).id, .bool (Q).keep, .int .u8 (Q).ttl, .int .u8 (Q).proto, .int .u32 (Q).src, .int .u32 (Q).dst, .slice C1 e1 f1, .slice C2 e2 f2])] W fun e w' => e = .returned (.tuple #[.agg #[.int .u8 0, .int .u32 0, .int .u32 0, .int .u16 0, .int .u16 0], .int .i64 12]) ∧ Below W.heap.size W w' := fun W C1 e1 f1 C2 e2 f2 k => (coq W C1 e1 f1 C2 e2 f2 k).mono fun e w' h => h.out
        clear coq
        go_enter Try.func7, Try.ntmps7
        go_wp2_with (first
        | (go_at_call 21; ((with_reducible refine (cb w1 x1 y1).mono ?_); rintro e u2 ⟨C1, e1, f1, C2, e2, f2, rfl, O2, hB2⟩); (obtain ⟨w2, hw2⟩ : ∃ W, u2.alloc (.cells #[.int .u8 (Q).tos, .int .u16 (Q).id, .bool (Q).keep, .int .u8 (Q).ttl, .int .u8 (Q).proto, .int .u32 (Q).src, .int .u32 (Q).dst, .slice C1 e1 f1, .slice C2 e2 f2] 26) = W := ⟨_, rfl⟩); have V2 : Below u2.heap.size u2 w2 := (by rw [← hw2]; (repeat (first | with_reducible exact Below.refl _ _ | with_reducible refine below_drew ?_ | with_reducible refine below_drewN ?_ _ | with_reducible refine below_alloc ?_ (Nat.le_refl _) _ | with_reducible refine Below.setCell ?_ (by first | exact Nat.le_refl _ | (simp only []; omega)) _ | with_reducible assumption))); (obtain ⟨kQ2, hkQ2⟩ : ∃ k : Nat, u2.heap.size = k := ⟨_, rfl⟩); have Q2 : Blk w2 kQ2 #[.int .u8 (Q).tos, .int .u16 (Q).id, .bool (Q).keep, .int .u8 (Q).ttl, .int .u8 (Q).proto, .int .u32 (Q).src, .int .u32 (Q).dst, .slice C1 e1 f1, .slice C2 e2 f2] 26 := (by rw [← hw2]; exact blk_new u2 _ _ _ hkQ2); have Qc2 := Q2.cell; have T2 := below_then hB2 V2; have z2 := (O2.bs).below V2; have P2 := P1.below T2; have Pc2 := P2.cell; clear Pc1; have M2 := M1.below T2; have Mc2 := M2.cell; clear Mc1; have x2 := x1.below T2; have y2 := y1.below T2; have R2 := below_then R1 T2)
        | (go_at_call 10; ((with_reducible refine (coq' w2 C1 e1 f1 C2 e2 f2 z2).mono ?_); rintro e u3 ⟨rfl, hB3⟩); (obtain ⟨w3, hw3⟩ : ∃ W, u3.alloc (.cells #[.int .u8 0, .int .u32 0, .int .u32 0, .int .u16 0, .int .u16 0] 28) = W := ⟨_, rfl⟩); have V3 : Below u3.heap.size u3 w3 := (by rw [← hw3]; (repeat (first | with_reducible exact Below.refl _ _ | with_reducible refine below_drew ?_ | with_reducible refine below_drewN ?_ _ | with_reducible refine below_alloc ?_ (Nat.le_refl _) _ | with_reducible refine Below.setCell ?_ (by first | exact Nat.le_refl _ | (simp only []; omega)) _ | with_reducible assumption))); (obtain ⟨kU3, hkU3⟩ : ∃ k : Nat, u3.heap.size = k := ⟨_, rfl⟩); have U3 : Blk w3 kU3 #[.int .u8 0, .int .u32 0, .int .u32 0, .int .u16 0, .int .u16 0] 28 := (by rw [← hw3]; exact blk_new u3 _ _ _ hkU3); have Uc3 := U3.cell; have T3 := below_then hB3 V3; have P3 := P2.below T3; have Pc3 := P3.cell; clear Pc2; have M3 := M2.below T3; have Mc3 := M3.cell; clear Mc2; have Q3 := Q2.below T3; have Qc3 := Q3.cell; clear Qc2; have x3 := x2.below T3; have y3 := y2.below T3; have z3 := z2.below T3; have R3 := below_then R2 T3; have ui0 : w3.setCell ⟨kU3, 0, none⟩ (.int .u8 0) = w3 := U3.idle rfl; have ui1 : w3.setCell ⟨kU3, 1, none⟩ (.int .u32 0) = w3 := U3.idle rfl; have ui2 : w3.setCell ⟨kU3, 2, none⟩ (.int .u32 0) = w3 := U3.idle rfl; have ui3 : w3.setCell ⟨kU3, 3, none⟩ (.int .u16 0) = w3 := U3.idle rfl; have ui4 : w3.setCell ⟨kU3, 4, none⟩ (.int .u16 0) = w3 := U3.idle rfl)
        | (go_at_call 23; ((with_reducible refine (ce w3).mono ?_); rintro e w4 ⟨rfl, hB4⟩); have P4 := P3.below hB4; have Pc4 := P4.cell; clear Pc3; have M4 := M3.below hB4; have Mc4 := M4.cell; clear Mc3; have Q4 := Q3.below hB4; have Qc4 := Q4.cell; clear Qc3; have U4 := U3.below hB4; have Uc4 := U4.cell; clear Uc3; have x4 := x3.below hB4; have y4 := y3.below hB4; have z4 := z3.below hB4; have R4 := below_then R3 hB4)
        | (go_at_call 12; ((with_reducible refine (live05_any w4).mono ?_); rintro e w5 ⟨rfl, hB5⟩); have P5 := P4.below hB5; have Pc5 := P5.cell; clear Pc4; have M5 := M4.below hB5; have Mc5 := M5.cell; clear Mc4; have Q5 := Q4.below hB5; have Qc5 := Q5.cell; clear Qc4; have U5 := U4.below hB5; have Uc5 := U5.cell; clear Uc4; have x5 := x4.below hB5; have y5 := y4.below hB5; have z5 := z4.below hB5; have R5 := below_then R4 hB5))
        go_ret
        exact ⟨rfl, R5⟩

      · have coq' : ∀ W C1 e1 f1 C2 e2 f2, Bs W C2 e2 f2 Q.dat → Calls Try.prog 10 #[(.agg #[.int .u8 (Q).tos, .int .u16 (Q).id, .bool (Q).keep, .int .u8 (Q).ttl, .int .u8 (Q).proto, .int .u32 (Q).src, .int .u32 (Q).dst, .slice C1 e1 f1, .slice C2 e2 f2])] W fun e w' => e = .returned (.tuple #[.agg #[.int .u8 1, .int .u32 p.src, .int .u32 p.dst, .int .u16 n, .int .u16 n], .int .i64 0]) ∧ Below W.heap.size W w' := fun W C1 e1 f1 C2 e2 f2 k => (coq W C1 e1 f1 C2 e2 f2 k).mono fun e w' h => h.out
        clear coq
        go_enter Try.func7, Try.ntmps7
        go_wp2_with (first
        | (go_at_call 21; ((with_reducible refine (cb w1 x1 y1).mono ?_); rintro e u2 ⟨C1, e1, f1, C2, e2, f2, rfl, O2, hB2⟩); (obtain ⟨w2, hw2⟩ : ∃ W, u2.alloc (.cells #[.int .u8 (Q).tos, .int .u16 (Q).id, .bool (Q).keep, .int .u8 (Q).ttl, .int .u8 (Q).proto, .int .u32 (Q).src, .int .u32 (Q).dst, .slice C1 e1 f1, .slice C2 e2 f2] 26) = W := ⟨_, rfl⟩); have V2 : Below u2.heap.size u2 w2 := (by rw [← hw2]; (repeat (first | with_reducible exact Below.refl _ _ | with_reducible refine below_drew ?_ | with_reducible refine below_drewN ?_ _ | with_reducible refine below_alloc ?_ (Nat.le_refl _) _ | with_reducible refine Below.setCell ?_ (by first | exact Nat.le_refl _ | (simp only []; omega)) _ | with_reducible assumption))); (obtain ⟨kQ2, hkQ2⟩ : ∃ k : Nat, u2.heap.size = k := ⟨_, rfl⟩); have Q2 : Blk w2 kQ2 #[.int .u8 (Q).tos, .int .u16 (Q).id, .bool (Q).keep, .int .u8 (Q).ttl, .int .u8 (Q).proto, .int .u32 (Q).src, .int .u32 (Q).dst, .slice C1 e1 f1, .slice C2 e2 f2] 26 := (by rw [← hw2]; exact blk_new u2 _ _ _ hkQ2); have Qc2 := Q2.cell; have T2 := below_then hB2 V2; have z2 := (O2.bs).below V2; have P2 := P1.below T2; have Pc2 := P2.cell; clear Pc1; have M2 := M1.below T2; have Mc2 := M2.cell; clear Mc1; have x2 := x1.below T2; have y2 := y1.below T2; have R2 := below_then R1 T2)
        | (go_at_call 10; ((with_reducible refine (coq' w2 C1 e1 f1 C2 e2 f2 z2).mono ?_); rintro e u3 ⟨rfl, hB3⟩); (obtain ⟨w3, hw3⟩ : ∃ W, u3.alloc (.cells #[.int .u8 1, .int .u32 p.src, .int .u32 p.dst, .int .u16 n, .int .u16 n] 28) = W := ⟨_, rfl⟩); have V3 : Below u3.heap.size u3 w3 := (by rw [← hw3]; (repeat (first | with_reducible exact Below.refl _ _ | with_reducible refine below_drew ?_ | with_reducible refine below_drewN ?_ _ | with_reducible refine below_alloc ?_ (Nat.le_refl _) _ | with_reducible refine Below.setCell ?_ (by first | exact Nat.le_refl _ | (simp only []; omega)) _ | with_reducible assumption))); (obtain ⟨kU3, hkU3⟩ : ∃ k : Nat, u3.heap.size = k := ⟨_, rfl⟩); have U3 : Blk w3 kU3 #[.int .u8 1, .int .u32 p.src, .int .u32 p.dst, .int .u16 n, .int .u16 n] 28 := (by rw [← hw3]; exact blk_new u3 _ _ _ hkU3); have Uc3 := U3.cell; have T3 := below_then hB3 V3; have P3 := P2.below T3; have Pc3 := P3.cell; clear Pc2; have M3 := M2.below T3; have Mc3 := M3.cell; clear Mc2; have Q3 := Q2.below T3; have Qc3 := Q3.cell; clear Qc2; have x3 := x2.below T3; have y3 := y2.below T3; have z3 := z2.below T3; have R3 := below_then R2 T3)
        | (go_at_call 23; ((with_reducible refine (ce w3).mono ?_); rintro e w4 ⟨rfl, hB4⟩); have P4 := P3.below hB4; have Pc4 := P4.cell; clear Pc3; have M4 := M3.below hB4; have Mc4 := M4.cell; clear Mc3; have Q4 := Q3.below hB4; have Qc4 := Q4.cell; clear Qc3; have U4 := U3.below hB4; have Uc4 := U4.cell; clear Uc3; have x4 := x3.below hB4; have y4 := y3.below hB4; have z4 := z3.below hB4; have R4 := below_then R3 hB4)
        | (go_at_call 12; ((with_reducible refine (live05_any w4).mono ?_); rintro e w5 ⟨rfl, hB5⟩); have P5 := P4.below hB5; have Pc5 := P5.cell; clear Pc4; have M5 := M4.below hB5; have Mc5 := M5.cell; clear Mc4; have Q5 := Q4.below hB5; have Qc5 := Q5.cell; clear Qc4; have U5 := U4.below hB5; have Uc5 := U5.cell; clear Uc4; have x5 := x4.below hB5; have y5 := y4.below hB5; have z5 := z4.below hB5; have R5 := below_then R4 hB5))
        go_ret
        exact ⟨rfl, R5⟩

    · have h0' : (E != 0) = true := by simpa using h0
      clear coq
      go_enter Try.func7, Try.ntmps7
      go_wp2_with (first
        | (go_at_call 21; ((with_reducible refine (cb w1 x1 y1).mono ?_); rintro e u2 ⟨C1, e1, f1, C2, e2, f2, rfl, O2, hB2⟩); (obtain ⟨w2, hw2⟩ : ∃ W, u2.alloc (.cells #[.int .u8 (Q).tos, .int .u16 (Q).id, .bool (Q).keep, .int .u8 (Q).ttl, .int .u8 (Q).proto, .int .u32 (Q).src, .int .u32 (Q).dst, .slice C1 e1 f1, .slice C2 e2 f2] 26) = W := ⟨_, rfl⟩); have V2 : Below u2.heap.size u2 w2 := (by rw [← hw2]; (repeat (first | with_reducible exact Below.refl _ _ | with_reducible refine below_drew ?_ | with_reducible refine below_drewN ?_ _ | with_reducible refine below_alloc ?_ (Nat.le_refl _) _ | with_reducible refine Below.setCell ?_ (by first | exact Nat.le_refl _ | (simp only []; omega)) _ | with_reducible assumption))); (obtain ⟨kQ2, hkQ2⟩ : ∃ k : Nat, u2.heap.size = k := ⟨_, rfl⟩); have Q2 : Blk w2 kQ2 #[.int .u8 (Q).tos, .int .u16 (Q).id, .bool (Q).keep, .int .u8 (Q).ttl, .int .u8 (Q).proto, .int .u32 (Q).src, .int .u32 (Q).dst, .slice C1 e1 f1, .slice C2 e2 f2] 26 := (by rw [← hw2]; exact blk_new u2 _ _ _ hkQ2); have Qc2 := Q2.cell; have T2 := below_then hB2 V2; have z2 := (O2.bs).below V2; have P2 := P1.below T2; have Pc2 := P2.cell; clear Pc1; have M2 := M1.below T2; have Mc2 := M2.cell; clear Mc1; have x2 := x1.below T2; have y2 := y1.below T2; have R2 := below_then R1 T2)
        | (go_at_call 12; ((with_reducible refine (live05_any w2).mono ?_); rintro e w3 ⟨rfl, hB3⟩); have P3 := P2.below hB3; have Pc3 := P3.cell; clear Pc2; have M3 := M2.below hB3; have Mc3 := M3.cell; clear Mc2; have Q3 := Q2.below hB3; have Qc3 := Q3.cell; clear Qc2; have x3 := x2.below hB3; have y3 := y2.below hB3; have z3 := z2.below hB3; have R3 := below_then R2 hB3))
      go_ret
      exact ⟨rfl, R3⟩

  · clear coA
    by_cases h0 : E = 0
    · subst h0
      have coq := coq rfl
      cases b
      · have coq' : ∀ W C1 e1 f1 C2 e2 f2, Bs W C2 e2 f2 Q.dat → Calls Try.prog 10 #[(.agg #[.int .u8 (Q).tos, .int .u16 (Q).id, .bool (Q).keep, .int .u8 (Q).ttl, .int .u8 (Q).proto, .int .u32 (Q).src, .int .u32 (Q).dst, .slice C1 e1 f1, .slice C2 e2 f2])] W fun e w' => e = .returned (.tuple #[.agg #[.int .u8 0, .int .u32 0, .int .u32 0, .int .u16 0, .int .u16 0], .int .i64 12]) ∧ Below W.heap.size W w' := fun W C1 e1 f1 C2 e2 f2 k => (coq W C1 e1 f1 C2 e2 f2 k).mono fun e w' h => h.out
        clear coq
        go_enter Try.func7, Try.ntmps7
        go_wp2_with (first
        | (go_at_call 21; ((with_reducible refine (cb w1 x1 y1).mono ?_); rintro e u2 ⟨C1, e1, f1, C2, e2, f2, rfl, O2, hB2⟩); (obtain ⟨w2, hw2⟩ : ∃ W, u2.alloc (.cells #[.int .u8 (Q).tos, .int .u16 (Q).id, .bool (Q).keep, .int .u8 (Q).ttl, .int .u8 (Q).proto, .int .u32 (Q).src, .int .u32 (Q).dst, .slice C1 e1 f1, .slice C2 e2 f2] 26) = W := ⟨_, rfl⟩); have V2 : Below u2.heap.size u2 w2 := (by rw [← hw2]; (repeat (first | with_reducible exact Below.refl _ _ | with_reducible refine below_drew ?_ | with_reducible refine below_drewN ?_ _ | with_reducible refine below_alloc ?_ (Nat.le_refl _) _ | with_reducible refine Below.setCell ?_ (by first | exact Nat.le_refl _ | (simp only []; omega)) _ | with_reducible assumption))); (obtain ⟨kQ2, hkQ2⟩ : ∃ k : Nat, u2.heap.size = k := ⟨_, rfl⟩); have Q2 : Blk w2 kQ2 #[.int .u8 (Q).tos, .int .u16 (Q).id, .bool (Q).keep, .int .u8 (Q).ttl, .int .u8 (Q).proto, .int .u32 (Q).src, .int .u32 (Q).dst, .slice C1 e1 f1, .slice C2 e2 f2] 26 := (by rw [← hw2]; exact blk_new u2 _ _ _ hkQ2); have Qc2 := Q2.cell; have T2 := below_then hB2 V2; have z2 := (O2.bs).below V2; have P2 := P1.below T2; have Pc2 := P2.cell; clear Pc1; have M2 := M1.below T2; have Mc2 := M2.cell; clear Mc1; have x2 := x1.below T2; have y2 := y1.below T2; have R2 := below_then R1 T2)
        | (go_at_call 10; ((with_reducible refine (coq' w2 C1 e1 f1 C2 e2 f2 z2).mono ?_); rintro e u3 ⟨rfl, hB3⟩); (obtain ⟨w3, hw3⟩ : ∃ W, u3.alloc (.cells #[.int .u8 0, .int .u32 0, .int .u32 0, .int .u16 0, .int .u16 0] 28) = W := ⟨_, rfl⟩); have V3 : Below u3.heap.size u3 w3 := (by rw [← hw3]; (repeat (first | with_reducible exact Below.refl _ _ | with_reducible refine below_drew ?_ | with_reducible refine below_drewN ?_ _ | with_reducible refine below_alloc ?_ (Nat.le_refl _) _ | with_reducible refine Below.setCell ?_ (by first | exact Nat.le_refl _ | (simp only []; omega)) _ | with_reducible assumption))); (obtain ⟨kU3, hkU3⟩ : ∃ k : Nat, u3.heap.size = k := ⟨_, rfl⟩); have U3 : Blk w3 kU3 #[.int .u8 0, .int .u32 0, .int .u32 0, .int .u16 0, .int .u16 0] 28 := (by rw [← hw3]; exact blk_new u3 _ _ _ hkU3); have Uc3 := U3.cell; have T3 := below_then hB3 V3; have P3 := P2.below T3; have Pc3 := P3.cell; clear Pc2; have M3 := M2.below T3; have Mc3 := M3.cell; clear Mc2; have Q3 := Q2.below T3; have Qc3 := Q3.cell; clear Qc2; have x3 := x2.below T3; have y3 := y2.below T3; have z3 := z2.below T3; have R3 := below_then R2 T3; have ui0 : w3.setCell ⟨kU3, 0, none⟩ (.int .u8 0) = w3 := U3.idle rfl; have ui1 : w3.setCell ⟨kU3, 1, none⟩ (.int .u32 0) = w3 := U3.idle rfl; have ui2 : w3.setCell ⟨kU3, 2, none⟩ (.int .u32 0) = w3 := U3.idle rfl; have ui3 : w3.setCell ⟨kU3, 3, none⟩ (.int .u16 0) = w3 := U3.idle rfl; have ui4 : w3.setCell ⟨kU3, 4, none⟩ (.int .u16 0) = w3 := U3.idle rfl)
        | (go_at_call 23; ((with_reducible refine (ce w3).mono ?_); rintro e w4 ⟨rfl, hB4⟩); have P4 := P3.below hB4; have Pc4 := P4.cell; clear Pc3; have M4 := M3.below hB4; have Mc4 := M4.cell; clear Mc3; have Q4 := Q3.below hB4; have Qc4 := Q4.cell; clear Qc3; have U4 := U3.below hB4; have Uc4 := U4.cell; clear Uc3; have x4 := x3.below hB4; have y4 := y3.below hB4; have z4 := z3.below hB4; have R4 := below_then R3 hB4)
        | (go_at_call 12; ((with_reducible refine (live05_any w4).mono ?_); rintro e w5 ⟨rfl, hB5⟩); have P5 := P4.below hB5; have Pc5 := P5.cell; clear Pc4; have M5 := M4.below hB5; have Mc5 := M5.cell; clear Mc4; have Q5 := Q4.below hB5; have Qc5 := Q5.cell; clear Qc4; have U5 := U4.below hB5; have Uc5 := U5.cell; clear Uc4; have x5 := x4.below hB5; have y5 := y4.below hB5; have z5 := z4.below hB5; have R5 := below_then R4 hB5))
        go_ret
        exact ⟨rfl, R5⟩

      · have coq' : ∀ W C1 e1 f1 C2 e2 f2, Bs W C2 e2 f2 Q.dat → Calls Try.prog 10 #[(.agg #[.int .u8 (Q).tos, .int .u16 (Q).id, .bool (Q).keep, .int .u8 (Q).ttl, .int .u8 (Q).proto, .int .u32 (Q).src, .int .u32 (Q).dst, .slice C1 e1 f1, .slice C2 e2 f2])] W fun e w' => e = .returned (.tuple #[.agg #[.int .u8 1, .int .u32 p.src, .int .u32 p.dst, .int .u16 n, .int .u16 n], .int .i64 0]) ∧ Below W.heap.size W w' := fun W C1 e1 f1 C2 e2 f2 k => (coq W C1 e1 f1 C2 e2 f2 k).mono fun e w' h => h.out
        clear coq
        go_enter Try.func7, Try.ntmps7
        go_wp2_with (first
        | (go_at_call 21; ((with_reducible refine (cb w1 x1 y1).mono ?_); rintro e u2 ⟨C1, e1, f1, C2, e2, f2, rfl, O2, hB2⟩); (obtain ⟨w2, hw2⟩ : ∃ W, u2.alloc (.cells #[.int .u8 (Q).tos, .int .u16 (Q).id, .bool (Q).keep, .int .u8 (Q).ttl, .int .u8 (Q).proto, .int .u32 (Q).src, .int .u32 (Q).dst, .slice C1 e1 f1, .slice C2 e2 f2] 26) = W := ⟨_, rfl⟩); have V2 : Below u2.heap.size u2 w2 := (by rw [← hw2]; (repeat (first | with_reducible exact Below.refl _ _ | with_reducible refine below_drew ?_ | with_reducible refine below_drewN ?_ _ | with_reducible refine below_alloc ?_ (Nat.le_refl _) _ | with_reducible refine Below.setCell ?_ (by first | exact Nat.le_refl _ | (simp only []; omega)) _ | with_reducible assumption))); (obtain ⟨kQ2, hkQ2⟩ : ∃ k : Nat, u2.heap.size = k := ⟨_, rfl⟩); have Q2 : Blk w2 kQ2 #[.int .u8 (Q).tos, .int .u16 (Q).id, .bool (Q).keep, .int .u8 (Q).ttl, .int .u8 (Q).proto, .int .u32 (Q).src, .int .u32 (Q).dst, .slice C1 e1 f1, .slice C2 e2 f2] 26 := (by rw [← hw2]; exact blk_new u2 _ _ _ hkQ2); have Qc2 := Q2.cell; have T2 := below_then hB2 V2; have z2 := (O2.bs).below V2; have P2 := P1.below T2; have Pc2 := P2.cell; clear Pc1; have M2 := M1.below T2; have Mc2 := M2.cell; clear Mc1; have x2 := x1.below T2; have y2 := y1.below T2; have R2 := below_then R1 T2)
        | (go_at_call 10; ((with_reducible refine (coq' w2 C1 e1 f1 C2 e2 f2 z2).mono ?_); rintro e u3 ⟨rfl, hB3⟩); (obtain ⟨w3, hw3⟩ : ∃ W, u3.alloc (.cells #[.int .u8 1, .int .u32 p.src, .int .u32 p.dst, .int .u16 n, .int .u16 n] 28) = W := ⟨_, rfl⟩); have V3 : Below u3.heap.size u3 w3 := (by rw [← hw3]; (repeat (first | with_reducible exact Below.refl _ _ | with_reducible refine below_drew ?_ | with_reducible refine below_drewN ?_ _ | with_reducible refine below_alloc ?_ (Nat.le_refl _) _ | with_reducible refine Below.setCell ?_ (by first | exact Nat.le_refl _ | (simp only []; omega)) _ | with_reducible assumption))); (obtain ⟨kU3, hkU3⟩ : ∃ k : Nat, u3.heap.size = k := ⟨_, rfl⟩); have U3 : Blk w3 kU3 #[.int .u8 1, .int .u32 p.src, .int .u32 p.dst, .int .u16 n, .int .u16 n] 28 := (by rw [← hw3]; exact blk_new u3 _ _ _ hkU3); have Uc3 := U3.cell; have T3 := below_then hB3 V3; have P3 := P2.below T3; have Pc3 := P3.cell; clear Pc2; have M3 := M2.below T3; have Mc3 := M3.cell; clear Mc2; have Q3 := Q2.below T3; have Qc3 := Q3.cell; clear Qc2; have x3 := x2.below T3; have y3 := y2.below T3; have z3 := z2.below T3; have R3 := below_then R2 T3)
        | (go_at_call 23; ((with_reducible refine (ce w3).mono ?_); rintro e w4 ⟨rfl, hB4⟩); have P4 := P3.below hB4; have Pc4 := P4.cell; clear Pc3; have M4 := M3.below hB4; have Mc4 := M4.cell; clear Mc3; have Q4 := Q3.below hB4; have Qc4 := Q4.cell; clear Qc3; have U4 := U3.below hB4; have Uc4 := U4.cell; clear Uc3; have x4 := x3.below hB4; have y4 := y3.below hB4; have z4 := z3.below hB4; have R4 := below_then R3 hB4)
        | (go_at_call 12; ((with_reducible refine (live05_any w4).mono ?_); rintro e w5 ⟨rfl, hB5⟩); have P5 := P4.below hB5; have Pc5 := P5.cell; clear Pc4; have M5 := M4.below hB5; have Mc5 := M5.cell; clear Mc4; have Q5 := Q4.below hB5; have Qc5 := Q5.cell; clear Qc4; have U5 := U4.below hB5; have Uc5 := U5.cell; clear Uc4; have x5 := x4.below hB5; have y5 := y4.below hB5; have z5 := z4.below hB5; have R5 := below_then R4 hB5))
        go_ret
        exact ⟨rfl, R5⟩

    · have h0' : (E != 0) = true := by simpa using h0
      clear coq
      go_enter Try.func7, Try.ntmps7
      go_wp2_with (first
        | (go_at_call 21; ((with_reducible refine (cb w1 x1 y1).mono ?_); rintro e u2 ⟨C1, e1, f1, C2, e2, f2, rfl, O2, hB2⟩); (obtain ⟨w2, hw2⟩ : ∃ W, u2.alloc (.cells #[.int .u8 (Q).tos, .int .u16 (Q).id, .bool (Q).keep, .int .u8 (Q).ttl, .int .u8 (Q).proto, .int .u32 (Q).src, .int .u32 (Q).dst, .slice C1 e1 f1, .slice C2 e2 f2] 26) = W := ⟨_, rfl⟩); have V2 : Below u2.heap.size u2 w2 := (by rw [← hw2]; (repeat (first | with_reducible exact Below.refl _ _ | with_reducible refine below_drew ?_ | with_reducible refine below_drewN ?_ _ | with_reducible refine below_alloc ?_ (Nat.le_refl _) _ | with_reducible refine Below.setCell ?_ (by first | exact Nat.le_refl _ | (simp only []; omega)) _ | with_reducible assumption))); (obtain ⟨kQ2, hkQ2⟩ : ∃ k : Nat, u2.heap.size = k := ⟨_, rfl⟩); have Q2 : Blk w2 kQ2 #[.int .u8 (Q).tos, .int .u16 (Q).id, .bool (Q).keep, .int .u8 (Q).ttl, .int .u8 (Q).proto, .int .u32 (Q).src, .int .u32 (Q).dst, .slice C1 e1 f1, .slice C2 e2 f2] 26 := (by rw [← hw2]; exact blk_new u2 _ _ _ hkQ2); have Qc2 := Q2.cell; have T2 := below_then hB2 V2; have z2 := (O2.bs).below V2; have P2 := P1.below T2; have Pc2 := P2.cell; clear Pc1; have M2 := M1.below T2; have Mc2 := M2.cell; clear Mc1; have x2 := x1.below T2; have y2 := y1.below T2; have R2 := below_then R1 T2)
        | (go_at_call 12; ((with_reducible refine (live05_any w2).mono ?_); rintro e w3 ⟨rfl, hB3⟩); have P3 := P2.below hB3; have Pc3 := P3.cell; clear Pc2; have M3 := M2.below hB3; have Mc3 := M3.cell; clear Mc2; have Q3 := Q2.below hB3; have Qc3 := Q3.cell; clear Qc2; have x3 := x2.below hB3; have y3 := y2.below hB3; have z3 := z2.below hB3; have R3 := below_then R2 hB3))
      go_ret
      exact ⟨rfl, R3⟩

  · clear coA
    by_cases h0 : E = 0
    · subst h0
      have coq := coq rfl
      cases b
      · have coq' : ∀ W C1 e1 f1 C2 e2 f2, Bs W C2 e2 f2 Q.dat → Calls Try.prog 10 #[(.agg #[.int .u8 (Q).tos, .int .u16 (Q).id, .bool (Q).keep, .int .u8 (Q).ttl, .int .u8 (Q).proto, .int .u32 (Q).src, .int .u32 (Q).dst, .slice C1 e1 f1, .slice C2 e2 f2])] W fun e w' => e = .returned (.tuple #[.agg #[.int .u8 0, .int .u32 0, .int .u32 0, .int .u16 0, .int .u16 0], .int .i64 12]) ∧ Below W.heap.size W w' := fun W C1 e1 f1 C2 e2 f2 k => (coq W C1 e1 f1 C2 e2 f2 k).mono fun e w' h => h.out
        clear coq
        go_enter Try.func7, Try.ntmps7
        go_wp2_with (first
        | (go_at_call 21; ((with_reducible refine (cb w1 x1 y1).mono ?_); rintro e u2 ⟨C1, e1, f1, C2, e2, f2, rfl, O2, hB2⟩); (obtain ⟨w2, hw2⟩ : ∃ W, u2.alloc (.cells #[.int .u8 (Q).tos, .int .u16 (Q).id, .bool (Q).keep, .int .u8 (Q).ttl, .int .u8 (Q).proto, .int .u32 (Q).src, .int .u32 (Q).dst, .slice C1 e1 f1, .slice C2 e2 f2] 26) = W := ⟨_, rfl⟩); have V2 : Below u2.heap.size u2 w2 := (by rw [← hw2]; (repeat (first | with_reducible exact Below.refl _ _ | with_reducible refine below_drew ?_ | with_reducible refine below_drewN ?_ _ | with_reducible refine below_alloc ?_ (Nat.le_refl _) _ | with_reducible refine Below.setCell ?_ (by first | exact Nat.le_refl _ | (simp only []; omega)) _ | with_reducible assumption))); (obtain ⟨kQ2, hkQ2⟩ : ∃ k : Nat, u2.heap.size = k := ⟨_, rfl⟩); have Q2 : Blk w2 kQ2 #[.int .u8 (Q).tos, .int .u16 (Q).id, .bool (Q).keep, .int .u8 (Q).ttl, .int .u8 (Q).proto, .int .u32 (Q).src, .int .u32 (Q).dst, .slice C1 e1 f1, .slice C2 e2 f2] 26 := (by rw [← hw2]; exact blk_new u2 _ _ _ hkQ2); have Qc2 := Q2.cell; have T2 := below_then hB2 V2; have z2 := (O2.bs).below V2; have P2 := P1.below T2; have Pc2 := P2.cell; clear Pc1; have M2 := M1.below T2; have Mc2 := M2.cell; clear Mc1; have x2 := x1.below T2; have y2 := y1.below T2; have R2 := below_then R1 T2)
        | (go_at_call 10; ((with_reducible refine (coq' w2 C1 e1 f1 C2 e2 f2 z2).mono ?_); rintro e u3 ⟨rfl, hB3⟩); (obtain ⟨w3, hw3⟩ : ∃ W, u3.alloc (.cells #[.int .u8 0, .int .u32 0, .int .u32 0, .int .u16 0, .int .u16 0] 28) = W := ⟨_, rfl⟩); have V3 : Below u3.heap.size u3 w3 := (by rw [← hw3]; (repeat (first | with_reducible exact Below.refl _ _ | with_reducible refine below_drew ?_ | with_reducible refine below_drewN ?_ _ | with_reducible refine below_alloc ?_ (Nat.le_refl _) _ | with_reducible refine Below.setCell ?_ (by first | exact Nat.le_refl _ | (simp only []; omega)) _ | with_reducible assumption))); (obtain ⟨kU3, hkU3⟩ : ∃ k : Nat, u3.heap.size = k := ⟨_, rfl⟩); have U3 : Blk w3 kU3 #[.int .u8 0, .int .u32 0, .int .u32 0, .int .u16 0, .int .u16 0] 28 := (by rw [← hw3]; exact blk_new u3 _ _ _ hkU3); have Uc3 := U3.cell; have T3 := below_then hB3 V3; have P3 := P2.below T3; have Pc3 := P3.cell; clear Pc2; have M3 := M2.below T3; have Mc3 := M3.cell; clear Mc2; have Q3 := Q2.below T3; have Qc3 := Q3.cell; clear Qc2; have x3 := x2.below T3; have y3 := y2.below T3; have z3 := z2.below T3; have R3 := below_then R2 T3; have ui0 : w3.setCell ⟨kU3, 0, none⟩ (.int .u8 0) = w3 := U3.idle rfl; have ui1 : w3.setCell ⟨kU3, 1, none⟩ (.int .u32 0) = w3 := U3.idle rfl; have ui2 : w3.setCell ⟨kU3, 2, none⟩ (.int .u32 0) = w3 := U3.idle rfl; have ui3 : w3.setCell ⟨kU3, 3, none⟩ (.int .u16 0) = w3 := U3.idle rfl; have ui4 : w3.setCell ⟨kU3, 4, none⟩ (.int .u16 0) = w3 := U3.idle rfl)
        | (go_at_call 23; ((with_reducible refine (ce w3).mono ?_); rintro e w4 ⟨rfl, hB4⟩); have P4 := P3.below hB4; have Pc4 := P4.cell; clear Pc3; have M4 := M3.below hB4; have Mc4 := M4.cell; clear Mc3; have Q4 := Q3.below hB4; have Qc4 := Q4.cell; clear Qc3; have U4 := U3.below hB4; have Uc4 := U4.cell; clear Uc3; have x4 := x3.below hB4; have y4 := y3.below hB4; have z4 := z3.below hB4; have R4 := below_then R3 hB4)
        | (go_at_call 12; ((with_reducible refine (live05_any w4).mono ?_); rintro e w5 ⟨rfl, hB5⟩); have P5 := P4.below hB5; have Pc5 := P5.cell; clear Pc4; have M5 := M4.below hB5; have Mc5 := M5.cell; clear Mc4; have Q5 := Q4.below hB5; have Qc5 := Q5.cell; clear Qc4; have U5 := U4.below hB5; have Uc5 := U5.cell; clear Uc4; have x5 := x4.below hB5; have y5 := y4.below hB5; have z5 := z4.below hB5; have R5 := below_then R4 hB5))
        go_ret
        exact ⟨rfl, R5⟩

      · have coq' : ∀ W C1 e1 f1 C2 e2 f2, Bs W C2 e2 f2 Q.dat → Calls Try.prog 10 #[(.agg #[.int .u8 (Q).tos, .int .u16 (Q).id, .bool (Q).keep, .int .u8 (Q).ttl, .int .u8 (Q).proto, .int .u32 (Q).src, .int .u32 (Q).dst, .slice C1 e1 f1, .slice C2 e2 f2])] W fun e w' => e = .returned (.tuple #[.agg #[.int .u8 1, .int .u32 p.src, .int .u32 p.dst, .int .u16 n, .int .u16 n], .int .i64 0]) ∧ Below W.heap.size W w' := fun W C1 e1 f1 C2 e2 f2 k => (coq W C1 e1 f1 C2 e2 f2 k).mono fun e w' h => h.out
        clear coq
        go_enter Try.func7, Try.ntmps7
        go_wp2_with (first
        | (go_at_call 21; ((with_reducible refine (cb w1 x1 y1).mono ?_); rintro e u2 ⟨C1, e1, f1, C2, e2, f2, rfl, O2, hB2⟩); (obtain ⟨w2, hw2⟩ : ∃ W, u2.alloc (.cells #[.int .u8 (Q).tos, .int .u16 (Q).id, .bool (Q).keep, .int .u8 (Q).ttl, .int .u8 (Q).proto, .int .u32 (Q).src, .int .u32 (Q).dst, .slice C1 e1 f1, .slice C2 e2 f2] 26) = W := ⟨_, rfl⟩); have V2 : Below u2.heap.size u2 w2 := (by rw [← hw2]; (repeat (first | with_reducible exact Below.refl _ _ | with_reducible refine below_drew ?_ | with_reducible refine below_drewN ?_ _ | with_reducible refine below_alloc ?_ (Nat.le_refl _) _ | with_reducible refine Below.setCell ?_ (by first | exact Nat.le_refl _ | (simp only []; omega)) _ | with_reducible assumption))); (obtain ⟨kQ2, hkQ2⟩ : ∃ k : Nat, u2.heap.size = k := ⟨_, rfl⟩); have Q2 : Blk w2 kQ2 #[.int .u8 (Q).tos, .int .u16 (Q).id, .bool (Q).keep, .int .u8 (Q).ttl, .int .u8 (Q).proto, .int .u32 (Q).src, .int .u32 (Q).dst, .slice C1 e1 f1, .slice C2 e2 f2] 26 := (by rw [← hw2]; exact blk_new u2 _ _ _ hkQ2); have Qc2 := Q2.cell; have T2 := below_then hB2 V2; have z2 := (O2.bs).below V2; have P2 := P1.below T2; have Pc2 := P2.cell; clear Pc1; have M2 := M1.below T2; have Mc2 := M2.cell; clear Mc1; have x2 := x1.below T2; have y2 := y1.below T2; have R2 := below_then R1 T2)
        | (go_at_call 10; ((with_reducible refine (coq' w2 C1 e1 f1 C2 e2 f2 z2).mono ?_); rintro e u3 ⟨rfl, hB3⟩); (obtain ⟨w3, hw3⟩ : ∃ W, u3.alloc (.cells #[.int .u8 1, .int .u32 p.src, .int .u32 p.dst, .int .u16 n, .int .u16 n] 28) = W := ⟨_, rfl⟩); have V3 : Below u3.heap.size u3 w3 := (by rw [← hw3]; (repeat (first | with_reducible exact Below.refl _ _ | with_reducible refine below_drew ?_ | with_reducible refine below_drewN ?_ _ | with_reducible refine below_alloc ?_ (Nat.le_refl _) _ | with_reducible refine Below.setCell ?_ (by first | exact Nat.le_refl _ | (simp only []; omega)) _ | with_reducible assumption))); (obtain ⟨kU3, hkU3⟩ : ∃ k : Nat, u3.heap.size = k := ⟨_, rfl⟩); have U3 : Blk w3 kU3 #[.int .u8 1, .int .u32 p.src, .int .u32 p.dst, .int .u16 n, .int .u16 n] 28 := (by rw [← hw3]; exact blk_new u3 _ _ _ hkU3); have Uc3 := U3.cell; have T3 := below_then hB3 V3; have P3 := P2.below T3; have Pc3 := P3.cell; clear Pc2; have M3 := M2.below T3; have Mc3 := M3.cell; clear Mc2; have Q3 := Q2.below T3; have Qc3 := Q3.cell; clear Qc2; have x3 := x2.below T3; have y3 := y2.below T3; have z3 := z2.below T3; have R3 := below_then R2 T3)
        | (go_at_call 23; ((with_reducible refine (ce w3).mono ?_); rintro e w4 ⟨rfl, hB4⟩); have P4 := P3.below hB4; have Pc4 := P4.cell; clear Pc3; have M4 := M3.below hB4; have Mc4 := M4.cell; clear Mc3; have Q4 := Q3.below hB4; have Qc4 := Q4.cell; clear Qc3; have U4 := U3.below hB4; have Uc4 := U4.cell; clear Uc3; have x4 := x3.below hB4; have y4 := y3.below hB4; have z4 := z3.below hB4; have R4 := below_then R3 hB4)
        | (go_at_call 12; ((with_reducible refine (live05_any w4).mono ?_); rintro e w5 ⟨rfl, hB5⟩); have P5 := P4.below hB5; have Pc5 := P5.cell; clear Pc4; have M5 := M4.below hB5; have Mc5 := M5.cell; clear Mc4; have Q5 := Q4.below hB5; have Qc5 := Q5.cell; clear Qc4; have U5 := U4.below hB5; have Uc5 := U5.cell; clear Uc4; have x5 := x4.below hB5; have y5 := y4.below hB5; have z5 := z4.below hB5; have R5 := below_then R4 hB5))
        go_ret
        exact ⟨rfl, R5⟩

    · have h0' : (E != 0) = true := by simpa using h0
      clear coq
      go_enter Try.func7, Try.ntmps7
      go_wp2_with (first
        | (go_at_call 21; ((with_reducible refine (cb w1 x1 y1).mono ?_); rintro e u2 ⟨C1, e1, f1, C2, e2, f2, rfl, O2, hB2⟩); (obtain ⟨w2, hw2⟩ : ∃ W, u2.alloc (.cells #[.int .u8 (Q).tos, .int .u16 (Q).id, .bool (Q).keep, .int .u8 (Q).ttl, .int .u8 (Q).proto, .int .u32 (Q).src, .int .u32 (Q).dst, .slice C1 e1 f1, .slice C2 e2 f2] 26) = W := ⟨_, rfl⟩); have V2 : Below u2.heap.size u2 w2 := (by rw [← hw2]; (repeat (first | with_reducible exact Below.refl _ _ | with_reducible refine below_drew ?_ | with_reducible refine below_drewN ?_ _ | with_reducible refine below_alloc ?_ (Nat.le_refl _) _ | with_reducible refine Below.setCell ?_ (by first | exact Nat.le_refl _ | (simp only []; omega)) _ | with_reducible assumption))); (obtain ⟨kQ2, hkQ2⟩ : ∃ k : Nat, u2.heap.size = k := ⟨_, rfl⟩); have Q2 : Blk w2 kQ2 #[.int .u8 (Q).tos, .int .u16 (Q).id, .bool (Q).keep, .int .u8 (Q).ttl, .int .u8 (Q).proto, .int .u32 (Q).src, .int .u32 (Q).dst, .slice C1 e1 f1, .slice C2 e2 f2] 26 := (by rw [← hw2]; exact blk_new u2 _ _ _ hkQ2); have Qc2 := Q2.cell; have T2 := below_then hB2 V2; have z2 := (O2.bs).below V2; have P2 := P1.below T2; have Pc2 := P2.cell; clear Pc1; have M2 := M1.below T2; have Mc2 := M2.cell; clear Mc1; have x2 := x1.below T2; have y2 := y1.below T2; have R2 := below_then R1 T2)
        | (go_at_call 12; ((with_reducible refine (live05_any w2).mono ?_); rintro e w3 ⟨rfl, hB3⟩); have P3 := P2.below hB3; have Pc3 := P3.cell; clear Pc2; have M3 := M2.below hB3; have Mc3 := M3.cell; clear Mc2; have Q3 := Q2.below hB3; have Qc3 := Q3.cell; clear Qc2; have x3 := x2.below hB3; have y3 := y2.below hB3; have z3 := z2.below hB3; have R3 := below_then R2 hB3))
      go_ret
      exact ⟨rfl, R3⟩

end Go.Proofs.Ythgoffbfgdgkpaa

namespace Go.Proofs.Ythgoffbfgdgkpaa
open Go.ChangeShapes Go.WideShapes Go.ChangeAt Go.RowKit Go.Deep
set_option linter.unusedVariables false

section
variable {H : Type} {enc : TypeId × Value → H} {P : Program} {w : World} {base : Nat} {held : Bool} {spare : Nat → Bool}
theorem list4 {α : Type} {l : List α} (h : l.length = 4) : ∃ a b c d, l = [a, b, c, d] := by
  match l, h with
  | [a, b, c, d], _ => exact ⟨a, b, c, d, rfl⟩
theorem slice_smallT {t e : TypeId} {n : Nat} {y : DataW H} (ht : P.underlying t = some (.slice e)) (hb : P.bytesOf e = 1) (hw : ∀ m ∈ y.weights P t, m ≤ reachBytes) (hd : (y = .nil ∧ n = 0) ∨ ∃ es sp, y = .slice es sp ∧ es.length = n) : n ≤ 140737488351232 := by
  rcases hd with ⟨_, h⟩ | ⟨es, sp, rfl, hn⟩
  · omega
  · have h1 := hw ((es.length + sp.length) * P.bytesOf e) (by simp [DataW.weights, ht])
    rw [hb] at h1
    simp only [reachBytes] at h1
    omega
theorem trod_bytesT {t e : TypeId} {n : Nat} {v : Value} {y : DataW H × List MemPlace} (ht : P.underlying t = some (.slice e)) (he : P.underlying e = some (.int .u8)) (hc : P.cellsOf e = 1) (hb : P.bytesOf e = 1)
    (hw : ∀ m ∈ y.1.weights P t, m ≤ reachBytes) (h : DataW.trod enc P w base spare held n t [v] = some y) : ∃ A n c l, v = .slice A n c ∧ Bs w A n c l ∧ n ≤ 140737488351232 := by
  obtain ⟨A, n, c, l, hv, hbs, hd⟩ := open_bs ht he hc h
  have hs := slice_smallT ht hb hw hd
  exact ⟨A, n, c, l, hv, hbs (by omega), hs⟩
end
end Go.Proofs.Ythgoffbfgdgkpaa

namespace Go.Proofs.Ythgoffbfgdgkpaa
open Go.ChangeShapes Go.WideShapes Go.ChangeAt Go.RowKit Go.Deep
set_option linter.unusedVariables false
set_option maxRecDepth 100000

section
variable {H : Type} {enc : TypeId × Value → H} {w : World} {base : Nat} {held : Bool} {spare : Nat → Bool}
theorem open_msg {r : Reach} {b0 : Nat} {v : Value} {d : DataW H} {ps : List MemPlace} (hval : Value.okWide Try.prog w r b0 49 v) (hd : DataW.Trod enc Try.prog w base spare held 49 v d ps)
    (hsz : ∀ m ∈ d.weights Try.prog 49, m ≤ reachBytes) :
    ∃ (m : Msg) (A1 : Option Addr) (n1 c1 : Nat), v = (.agg #[.int .u8 (m).ty, .int .u8 (m).code, .int .u32 (m).rest, .slice A1 n1 c1]) ∧ m.Ok ∧ Bs w A1 n1 c1 m.dat ∧ n1 ≤ 140737488351232 := by
  have hu := Try.underlying49
  obtain ⟨cs, xs, n, rfl, hcl, rfl, hxl, hi⟩ := open_struct hu (by kernel_rfl) hval hd
  rw [show (Try.prog.cellsOf 49) = 4 from by kernel_rfl] at hcl
  obtain ⟨v0, v1, v2, v3, rfl⟩ := list4 hcl
  obtain ⟨y0, y1, y2, y3, rfl⟩ := list4 (by simpa using hxl)
  obtain ⟨a0, rfl, b0l, b0h⟩ := trod_byte (t := 5) Try.underlying5 (by simpa using hi 0 _ rfl)
  obtain ⟨a1, rfl, b1l, b1h⟩ := trod_byte (t := 5) Try.underlying5 (by simpa using hi 1 _ rfl)
  obtain ⟨a2, rfl, b2l, b2h⟩ := trod_u32 (t := 23) Try.underlying23 (by simpa using hi 2 _ rfl)
  obtain ⟨A1, n1, c1, l1, rfl, k1, z1⟩ := trod_bytesT (t := 24) Try.underlying24 Try.underlying5 (by kernel_rfl) (by kernel_rfl) (weights_field (j := 3) (y := y3.1) hu hsz rfl (by simp)) (by simpa using hi 3 _ rfl)
  exact ⟨⟨a0, a1, a2, l1⟩, A1, n1, c1, rfl, ⟨⟨b0l, b0h⟩, ⟨b1l, b1h⟩, ⟨b2l, b2h⟩⟩, k1, z1⟩
end
end Go.Proofs.Ythgoffbfgdgkpaa


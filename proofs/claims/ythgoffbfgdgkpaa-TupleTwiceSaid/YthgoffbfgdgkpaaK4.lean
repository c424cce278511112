/- Parts of the proofs of this seat, laid together: SegUB SegUR Msg Msg2 Gre1 Msg3 Gre2 Gre3 Gre5 Gre6. -/
import Derived.Lib.AppendZerosOnto
import Derived.Test.YthgoffbfgdgkpaaK3
import Derived.Test.YthgoffbfgdgkpaaK2
import Derived.Test.YthgoffbfgdgkpaaK1
/- The packet with a datagram: segs.BuildUdp. -/
namespace Go.Proofs.Ythgoffbfgdgkpaa
open Go.RowKit
set_option linter.unusedVariables false
set_option linter.unusedSimpArgs false
set_option linter.unusedSimpArgs false
set_option maxHeartbeats 4000000
set_option maxRecDepth 100000

/-- The datagram's bytes, their sum 0; the sum that stands in them. -/
def dL (d : Dgm) : List UInt8 := ([] ++ twos [d.src, d.dst, (8 + (d.dat.length : Int)) % 65536, 0]) ++ d.dat
def dZ (p : Pkt) (d : Dgm) : Int := if psum p 17 (dL d) = 0 then 65535 else psum p 17 (dL d)
def dS (p : Pkt) (d : Dgm) : List UInt8 := if d.bare then dL d else put16 (dL d) 6 (dZ p d)
def dbE (p : Pkt) (d : Dgm) : Int := wiE p (8 + d.dat.length)
def dbP (p : Pkt) (d : Dgm) : Pkt := withP p 17 (dS p d)
theorem dL_len (d : Dgm) : (dL d).length = 8 + d.dat.length := by simp [dL, twos, two]; omega
theorem dS_len (p : Pkt) (d : Dgm) : (dS p d).length = 8 + d.dat.length := by
  unfold dS; split
  · exact dL_len d
  · rw [put16_length, dL_len]
theorem sx_isNew {g B : Nat} {cs : Array Value} {t : TypeId} (hg : g < B) : ∀ w w' v, isNew B cs t w v → w.grownBy w' (some g) → isNew B cs t w' v := fun _ _ _ ⟨b, e, h, k⟩ hE => ⟨b, e, h, k.ext hE (by omega)⟩
end Go.Proofs.Ythgoffbfgdgkpaa

/- The document's packet with a datagram. -/
namespace Go.Proofs.Ythgoffbfgdgkpaa
open Go.RowKit
set_option linter.unusedVariables false
set_option linter.unusedSimpArgs false
set_option linter.unusedSimpArgs false
set_option maxHeartbeats 4000000
set_option maxRecDepth 100000

theorem rdbuild_any (p : Pkt) (hp : p.Ok) (X1 : Option Addr) (m1 j1 : Nat) (X2 : Option Addr) (m2 j2 : Nat) (s : Dgm) (hs : s.Ok) (DA : Option Addr) (dn dc : Nat) (w : World) (k1 : Bs w X1 m1 j1 p.opt) (kd : Bs w DA dn dc s.dat) :
    Calls Try.prog 20 #[(.agg #[.int .u8 (p).tos, .int .u16 (p).id, .bool (p).keep, .int .u8 (p).ttl, .int .u8 (p).proto, .int .u32 (p).src, .int .u32 (p).dst, .slice X1 m1 j1, .slice X2 m2 j2]), (.agg #[.int .u16 (s).src, .int .u16 (s).dst, .bool (s).bare, .slice DA dn dc])] w (WiPost w (dbP p s) (dbE p s)) := by
  obtain ⟨⟨a0, a1⟩, ⟨d0, d1⟩⟩ := hs
  have ld := kd.len
  have l1 := k1.len
  have bd := kd.max
  have hsE : dbE p s = wiE p (8 + dn) := by unfold dbE; rw [ld]
  by_cases hbad : 40 < (m1 : Int) ∨ m1 % 4 ≠ 0
  · have HE : Hid (dbE p s = 4) := by unfold Hid; rw [hsE]; exact wiE_4 l1 hbad
    have HP : Hid (dbP p s = zP) := by unfold Hid dbP withP; rw [dS_len, ld, wiE_4 l1 hbad]; rfl
    have hw0 : ∀ W, Bs W X1 m1 j1 p.opt → Calls Try.prog 37 #[(.agg #[.int .u8 (p).tos, .int .u16 (p).id, .bool (p).keep, .int .u8 (p).ttl, .int .u8 (p).proto, .int .u32 (p).src, .int .u32 (p).dst, .slice X1 m1 j1, .slice X2 m2 j2]), .int .u8 17, .slice none 0 0] W (fun e w' => ∃ C1 e1 f1 C2 e2 f2, e = .returned (.tuple #[.agg #[.int .u8 0, .int .u16 0, .bool false, .int .u8 0, .int .u8 0, .int .u32 0, .int .u32 0, .slice C1 e1 f1, .slice C2 e2 f2], .int .i64 4]) ∧ Own w' W.heap.size 5 C1 e1 f1 [] ∧ Own w' W.heap.size 5 C2 e2 f2 [] ∧ Below W.heap.size W w') := fun W kk => by
      have hh := rwith_any p X1 m1 j1 X2 m2 j2 17 none 0 0 [] W kk (Bs.none_ W)
      unfold withP at hh
      rw [wiE_4 l1 hbad, if_neg (by decide)] at hh
      exact hh.mono fun e w' hq => hq.out
    clear hbad hsE l1 hp ld
    obtain ⟨k, hk⟩ : ∃ k : Nat, w.heap.size = k := ⟨_, rfl⟩
    obtain ⟨w1, hw1⟩ : ∃ W, (((w.alloc (.cells #[.int .u8 (p).tos, .int .u16 (p).id, .bool (p).keep, .int .u8 (p).ttl, .int .u8 (p).proto, .int .u32 (p).src, .int .u32 (p).dst, .slice X1 m1 j1, .slice X2 m2 j2] 26)).alloc (.cells #[.int .u16 (s).src, .int .u16 (s).dst, .bool (s).bare, .slice DA dn dc] 45)).alloc (.cells #[.int .u8 0, .int .u16 0, .bool false, .int .u8 0, .int .u8 0, .int .u32 0, .int .u32 0, .slice none 0 0, .slice none 0 0] 26)) = W := ⟨_, rfl⟩
    have P1 : Blk w1 k #[.int .u8 (p).tos, .int .u16 (p).id, .bool (p).keep, .int .u8 (p).ttl, .int .u8 (p).proto, .int .u32 (p).src, .int .u32 (p).dst, .slice X1 m1 j1, .slice X2 m2 j2] 26 := by rw [← hw1]; exact (((blk_new _ _ _ k (by simp [hk])).alloc _).alloc _)
    have S1 : Blk w1 (k + 1) #[.int .u16 (s).src, .int .u16 (s).dst, .bool (s).bare, .slice DA dn dc] 45 := by rw [← hw1]; exact ((blk_new _ _ _ (k + 1) (by simp [hk])).alloc _)
    have Z1 : Blk w1 (k + 1 + 1) #[.int .u8 0, .int .u16 0, .bool false, .int .u8 0, .int .u8 0, .int .u32 0, .int .u32 0, .slice none 0 0, .slice none 0 0] 26 := by rw [← hw1]; exact (blk_new _ _ _ (k + 1 + 1) (by simp [hk]))
    have R1 : Below w.heap.size w w1 := by rw [← hw1]; (repeat (first | with_reducible exact Below.refl _ _ | with_reducible refine below_drew ?_ | with_reducible refine below_drewN ?_ _ | with_reducible refine below_alloc ?_ (Nat.le_refl _) _ | with_reducible refine Below.setCell ?_ (by first | exact Nat.le_refl _ | (simp only []; omega)) _ | with_reducible assumption))
    have Pc1 := P1.cell
    have Sc1 := S1.cell
    have Zc1 := Z1.cell
    have Pl1 := P1.lt
    have Sl1 := S1.lt
    have Zl1 := Z1.lt
    have xx1 := (k1).below R1
    have yy1 := (kd).below R1
    go_enter Try.func20, Try.ntmps20
    go_wp2_with (go_at_call 37; ((with_reducible refine (hw0 w1 xx1).mono ?_); rintro e w2 ⟨C1, e1, f1, C2, e2, f2, rfl, O1, O2, hB2⟩); (obtain ⟨w3, hw3⟩ : ∃ W, w2.alloc (.cells #[.int .u8 0, .int .u16 0, .bool false, .int .u8 0, .int .u8 0, .int .u32 0, .int .u32 0, .slice C1 e1 f1, .slice C2 e2 f2] 26) = W := ⟨_, rfl⟩); have V3 : Below w2.heap.size w2 w3 := (by rw [← hw3]; (repeat (first | with_reducible exact Below.refl _ _ | with_reducible refine below_drew ?_ | with_reducible refine below_drewN ?_ _ | with_reducible refine below_alloc ?_ (Nat.le_refl _) _ | with_reducible refine Below.setCell ?_ (by first | exact Nat.le_refl _ | (simp only []; omega)) _ | with_reducible assumption))); have T3 := below_then hB2 V3; have Q3 : Blk w3 w2.heap.size #[.int .u8 0, .int .u16 0, .bool false, .int .u8 0, .int .u8 0, .int .u32 0, .int .u32 0, .slice C1 e1 f1, .slice C2 e2 f2] 26 := (by rw [← hw3]; exact blk_new w2 _ _ _ rfl); have qc3 := Q3.cell; have P3 := P1.below T3; have pc3 := P3.cell; have Z3 := Z1.below T3; have zc3 := Z3.cell; have S3 := S1.below T3; have sc3 := S3.cell; have R3 := below_then R1 T3)
    obtain ⟨wf, hwf, Sf⟩ := store9 Z3 (.int .u8 0) (.int .u16 0) (.bool false) (.int .u8 0) (.int .u8 0) (.int .u32 0) (.int .u32 0) (.slice none 0 0) (.slice none 0 0)
    rw [hwf]
    have pf := Sf.blk.cell
    exact bodyPost_ret (v := .tuple #[.agg #[.int .u8 0, .int .u16 0, .bool false, .int .u8 0, .int .u8 0, .int .u32 0, .int .u32 0, .slice none 0 0, .slice none 0 0], .int .i64 4]) (by simp [results, Try.results20, go_sem, pf]) rfl (by rw [HE.out, HP.out]; exact wiPost_no (Sf.bel R3 (by omega)))

  have h1 : (m1 : Int) ≤ 40 := by omega
  have h2 : m1 % 4 = 0 := by omega
  have hw0 : ∀ W, Bs W X1 m1 j1 p.opt → Calls Try.prog 37 #[(.agg #[.int .u8 (p).tos, .int .u16 (p).id, .bool (p).keep, .int .u8 (p).ttl, .int .u8 (p).proto, .int .u32 (p).src, .int .u32 (p).dst, .slice X1 m1 j1, .slice X2 m2 j2]), .int .u8 17, .slice none 0 0] W (fun e w' => ∃ C1 e1 f1 C2 e2 f2, e = .returned (.tuple #[.agg #[.int .u8 p.tos, .int .u16 p.id, .bool p.keep, .int .u8 p.ttl, .int .u8 17, .int .u32 p.src, .int .u32 p.dst, .slice C1 e1 f1, .slice C2 e2 f2], .int .i64 0]) ∧ Own w' W.heap.size 5 C1 e1 f1 p.opt ∧ Own w' W.heap.size 5 C2 e2 f2 [] ∧ Below W.heap.size W w') := fun W kk => by
    have hh := rwith_any p X1 m1 j1 X2 m2 j2 17 none 0 0 [] W kk (Bs.none_ W)
    unfold withP at hh
    rw [show ([] : List UInt8).length = 0 from rfl, wiE_0 l1 h1 h2 (by omega), if_pos rfl] at hh
    exact hh.mono fun e w' hq => hq.out
  have ho1 : ∀ w' (W : World) C1 e1 f1, Own w' W.heap.size 5 C1 e1 f1 p.opt → m1 = e1 := fun w' W C1 e1 f1 h => by rw [← h.len]; exact l1.symm
  by_cases h3 : 65535 < 28 + (m1 : Int) + (dn : Int)
  · have HE : Hid (dbE p s = 8) := by unfold Hid; rw [hsE]; exact wiE_8 l1 h1 h2 (by omega)
    have HP : Hid (dbP p s = zP) := by unfold Hid dbP withP; rw [dS_len, ld, wiE_8 l1 h1 h2 (by omega)]; rfl
    clear hbad hsE l1 hp ld
    obtain ⟨k, hk⟩ : ∃ k : Nat, w.heap.size = k := ⟨_, rfl⟩
    obtain ⟨w1, hw1⟩ : ∃ W, (((w.alloc (.cells #[.int .u8 (p).tos, .int .u16 (p).id, .bool (p).keep, .int .u8 (p).ttl, .int .u8 (p).proto, .int .u32 (p).src, .int .u32 (p).dst, .slice X1 m1 j1, .slice X2 m2 j2] 26)).alloc (.cells #[.int .u16 (s).src, .int .u16 (s).dst, .bool (s).bare, .slice DA dn dc] 45)).alloc (.cells #[.int .u8 0, .int .u16 0, .bool false, .int .u8 0, .int .u8 0, .int .u32 0, .int .u32 0, .slice none 0 0, .slice none 0 0] 26)) = W := ⟨_, rfl⟩
    have P1 : Blk w1 k #[.int .u8 (p).tos, .int .u16 (p).id, .bool (p).keep, .int .u8 (p).ttl, .int .u8 (p).proto, .int .u32 (p).src, .int .u32 (p).dst, .slice X1 m1 j1, .slice X2 m2 j2] 26 := by rw [← hw1]; exact (((blk_new _ _ _ k (by simp [hk])).alloc _).alloc _)
    have S1 : Blk w1 (k + 1) #[.int .u16 (s).src, .int .u16 (s).dst, .bool (s).bare, .slice DA dn dc] 45 := by rw [← hw1]; exact ((blk_new _ _ _ (k + 1) (by simp [hk])).alloc _)
    have Z1 : Blk w1 (k + 1 + 1) #[.int .u8 0, .int .u16 0, .bool false, .int .u8 0, .int .u8 0, .int .u32 0, .int .u32 0, .slice none 0 0, .slice none 0 0] 26 := by rw [← hw1]; exact (blk_new _ _ _ (k + 1 + 1) (by simp [hk]))
    have R1 : Below w.heap.size w w1 := by rw [← hw1]; (repeat (first | with_reducible exact Below.refl _ _ | with_reducible refine below_drew ?_ | with_reducible refine below_drewN ?_ _ | with_reducible refine below_alloc ?_ (Nat.le_refl _) _ | with_reducible refine Below.setCell ?_ (by first | exact Nat.le_refl _ | (simp only []; omega)) _ | with_reducible assumption))
    have Pc1 := P1.cell
    have Sc1 := S1.cell
    have Zc1 := Z1.cell
    have Pl1 := P1.lt
    have Sl1 := S1.lt
    have Zl1 := Z1.lt
    have xx1 := (k1).below R1
    have yy1 := (kd).below R1
    go_enter Try.func20, Try.ntmps20
    go_wp2_with (go_at_call 37; ((with_reducible refine (hw0 w1 xx1).mono ?_); rintro e w2 ⟨C1, e1, f1, C2, e2, f2, rfl, O1, O2, hB2⟩); have ue := ho1 _ w1 _ _ _ O1; subst ue; (obtain ⟨w3, hw3⟩ : ∃ W, w2.alloc (.cells #[.int .u8 p.tos, .int .u16 p.id, .bool p.keep, .int .u8 p.ttl, .int .u8 17, .int .u32 p.src, .int .u32 p.dst, .slice C1 m1 f1, .slice C2 e2 f2] 26) = W := ⟨_, rfl⟩); have V3 : Below w2.heap.size w2 w3 := (by rw [← hw3]; (repeat (first | with_reducible exact Below.refl _ _ | with_reducible refine below_drew ?_ | with_reducible refine below_drewN ?_ _ | with_reducible refine below_alloc ?_ (Nat.le_refl _) _ | with_reducible refine Below.setCell ?_ (by first | exact Nat.le_refl _ | (simp only []; omega)) _ | with_reducible assumption))); have T3 := below_then hB2 V3; have Q3 : Blk w3 w2.heap.size #[.int .u8 p.tos, .int .u16 p.id, .bool p.keep, .int .u8 p.ttl, .int .u8 17, .int .u32 p.src, .int .u32 p.dst, .slice C1 m1 f1, .slice C2 e2 f2] 26 := (by rw [← hw3]; exact blk_new w2 _ _ _ rfl); have qc3 := Q3.cell; have P3 := P1.below T3; have pc3 := P3.cell; have Z3 := Z1.below T3; have zc3 := Z3.cell; have S3 := S1.below T3; have sc3 := S3.cell; have R3 := below_then R1 T3)
    obtain ⟨wf, hwf, Sf⟩ := store9 Z3 (.int .u8 0) (.int .u16 0) (.bool false) (.int .u8 0) (.int .u8 0) (.int .u32 0) (.int .u32 0) (.slice none 0 0) (.slice none 0 0)
    rw [hwf]
    have pf := Sf.blk.cell
    exact bodyPost_ret (v := .tuple #[.agg #[.int .u8 0, .int .u16 0, .bool false, .int .u8 0, .int .u8 0, .int .u32 0, .int .u32 0, .slice none 0 0, .slice none 0 0], .int .i64 8]) (by simp [results, Try.results20, go_sem, pf]) rfl (by rw [HE.out, HP.out]; exact wiPost_no (Sf.bel R3 (by omega)))

  have hE0 : wiE p (8 + dn) = 0 := wiE_0 l1 h1 h2 (by omega)
  have HE : Hid (dbE p s = 0) := by unfold Hid; rw [hsE]; exact hE0
  have HP : Hid (dbP p s = { p with proto := 17, dat := dS p s }) := by unfold Hid dbP withP; rw [dS_len, ld, hE0, if_pos rfl]
  obtain ⟨z, hz⟩ : ∃ z : Int, (8 + (dn : Int)) % 65536 = z := ⟨_, rfl⟩
  have z0 : 0 ≤ z := by omega
  have z1 : z ≤ 65535 := by omega
  obtain ⟨y, hy⟩ : ∃ y : Int, 8 + (dn : Int) = y := ⟨_, rfl⟩
  have hw8 : IntKind.i64.wrap (8 + (dn : Int)) = y := by rw [IntKind.wrap_i64]; omega
  have hwy : IntKind.u16.wrap y = z := by rw [IntKind.wrap_u16]; omega
  have HX : Hid ((((([] ++ two s.src) ++ two s.dst) ++ two z) ++ [0, 0]) ++ s.dat = dL s) := by unfold Hid dL; rw [ld, hz]; simp [twos, two]; decide
  have HN : Hid ((dL s).length = 8 + dn) := by unfold Hid; rw [dL_len, ld]
  have HY := Lib.hid hy
  have h3' : 28 + (m1 : Int) + (dn : Int) ≤ 65535 := by omega
  obtain ⟨zz, hzz⟩ : ∃ z, psum p 17 (dL s) = z := ⟨_, rfl⟩
  have zz0 : 0 ≤ zz := by rw [← hzz]; exact csum_lo _
  have zz1 : zz ≤ 65535 := by rw [← hzz]; exact csum_hi _
  have hsum : ∀ W A n c, n ≤ 65535 → Bs W A n c (dL s) → Calls Try.prog 39 #[(.agg #[.int .u8 (p).tos, .int .u16 (p).id, .bool (p).keep, .int .u8 (p).ttl, .int .u8 (p).proto, .int .u32 (p).src, .int .u32 (p).dst, .slice X1 m1 j1, .slice X2 m2 j2]), .int .u8 17, .slice A n c] W fun e w' => e = .returned (.int .u16 zz) ∧ Below W.heap.size W w' := fun W A n c hn bo => by
    have := rssum_any p hp X1 m1 j1 X2 m2 j2 17 (by omega) (by omega) A n c (dL s) W bo (by omega)
    rw [← hzz]
    exact this
  have hw1' : ∀ W A n c, Bs W X1 m1 j1 p.opt → Bs W A n c (dS p s) → Calls Try.prog 37 #[(.agg #[.int .u8 (p).tos, .int .u16 (p).id, .bool (p).keep, .int .u8 (p).ttl, .int .u8 (p).proto, .int .u32 (p).src, .int .u32 (p).dst, .slice X1 m1 j1, .slice X2 m2 j2]), .int .u8 17, .slice A n c] W (fun e w' => ∃ C1 e1 f1 C2 e2 f2, e = .returned (.tuple #[.agg #[.int .u8 p.tos, .int .u16 p.id, .bool p.keep, .int .u8 p.ttl, .int .u8 17, .int .u32 p.src, .int .u32 p.dst, .slice C1 e1 f1, .slice C2 e2 f2], .int .i64 0]) ∧ Own w' W.heap.size 5 C1 e1 f1 p.opt ∧ Own w' W.heap.size 5 C2 e2 f2 (dS p s) ∧ Below W.heap.size W w') := fun W A n c kk ks => by
    have hh := rwith_any p X1 m1 j1 X2 m2 j2 17 A n c (dS p s) W kk ks
    unfold withP at hh
    rw [dS_len, ld, hE0, if_pos rfl] at hh
    exact hh.mono fun e w' hq => hq.out
  clear hbad hsE hp hE0 hz hy h3 l1 ld
  obtain ⟨k, hk⟩ : ∃ k : Nat, w.heap.size = k := ⟨_, rfl⟩
  obtain ⟨w1, hw1⟩ : ∃ W, (((w.alloc (.cells #[.int .u8 (p).tos, .int .u16 (p).id, .bool (p).keep, .int .u8 (p).ttl, .int .u8 (p).proto, .int .u32 (p).src, .int .u32 (p).dst, .slice X1 m1 j1, .slice X2 m2 j2] 26)).alloc (.cells #[.int .u16 (s).src, .int .u16 (s).dst, .bool (s).bare, .slice DA dn dc] 45)).alloc (.cells #[.int .u8 0, .int .u16 0, .bool false, .int .u8 0, .int .u8 0, .int .u32 0, .int .u32 0, .slice none 0 0, .slice none 0 0] 26)) = W := ⟨_, rfl⟩
  have P1 : Blk w1 k #[.int .u8 (p).tos, .int .u16 (p).id, .bool (p).keep, .int .u8 (p).ttl, .int .u8 (p).proto, .int .u32 (p).src, .int .u32 (p).dst, .slice X1 m1 j1, .slice X2 m2 j2] 26 := by rw [← hw1]; exact (((blk_new _ _ _ k (by simp [hk])).alloc _).alloc _)
  have S1 : Blk w1 (k + 1) #[.int .u16 (s).src, .int .u16 (s).dst, .bool (s).bare, .slice DA dn dc] 45 := by rw [← hw1]; exact ((blk_new _ _ _ (k + 1) (by simp [hk])).alloc _)
  have Z1 : Blk w1 (k + 1 + 1) #[.int .u8 0, .int .u16 0, .bool false, .int .u8 0, .int .u8 0, .int .u32 0, .int .u32 0, .slice none 0 0, .slice none 0 0] 26 := by rw [← hw1]; exact (blk_new _ _ _ (k + 1 + 1) (by simp [hk]))
  have R1 : Below w.heap.size w w1 := by rw [← hw1]; (repeat (first | with_reducible exact Below.refl _ _ | with_reducible refine below_drew ?_ | with_reducible refine below_drewN ?_ _ | with_reducible refine below_alloc ?_ (Nat.le_refl _) _ | with_reducible refine Below.setCell ?_ (by first | exact Nat.le_refl _ | (simp only []; omega)) _ | with_reducible assumption))
  have Pc1 := P1.cell
  have Sc1 := S1.cell
  have Zc1 := Z1.cell
  have Pl1 := P1.lt
  have Sl1 := S1.lt
  have Zl1 := Z1.lt
  have xx1 := (k1).below R1
  have yy1 := (kd).below R1
  go_enter Try.func20, Try.ntmps20
  go_wp2_with (go_at_call 37; ((with_reducible refine (hw0 w1 xx1).mono ?_); rintro e w2 ⟨C1, e1, f1, C2, e2, f2, rfl, O1, O2, hB2⟩); have ue := ho1 _ w1 _ _ _ O1; subst ue; (obtain ⟨w3, hw3⟩ : ∃ W, w2.alloc (.cells #[.int .u8 p.tos, .int .u16 p.id, .bool p.keep, .int .u8 p.ttl, .int .u8 17, .int .u32 p.src, .int .u32 p.dst, .slice C1 m1 f1, .slice C2 e2 f2] 26) = W := ⟨_, rfl⟩); have V3 : Below w2.heap.size w2 w3 := (by rw [← hw3]; (repeat (first | with_reducible exact Below.refl _ _ | with_reducible refine below_drew ?_ | with_reducible refine below_drewN ?_ _ | with_reducible refine below_alloc ?_ (Nat.le_refl _) _ | with_reducible refine Below.setCell ?_ (by first | exact Nat.le_refl _ | (simp only []; omega)) _ | with_reducible assumption))); have T3 := below_then hB2 V3; have Q3 : Blk w3 w2.heap.size #[.int .u8 p.tos, .int .u16 p.id, .bool p.keep, .int .u8 p.ttl, .int .u8 17, .int .u32 p.src, .int .u32 p.dst, .slice C1 m1 f1, .slice C2 e2 f2] 26 := (by rw [← hw3]; exact blk_new w2 _ _ _ rfl); have qc3 := Q3.cell; have P3 := P1.below T3; have pc3 := P3.cell; have Z3 := Z1.below T3; have zc3 := Z3.cell; have S3 := S1.below T3; have sc3 := S3.cell; have R3 := below_then R1 T3)
  have xx3 := xx1.below T3
  have yy3 := yy1.below T3
  have hk1 : w.heap.size ≤ k := Nat.le_of_eq hk
  have r3s := R3.size
  clear hw3 hw1 hk hw0
  refine region_txt 8 (by kernel_rfl) (by kernel_rfl) ?_; (iterate 8 (first | (apply ObsK.skip (by rfl)) | (apply ObsK.v (by rfl); (intro wo hT; (repeat (first | (intro v hv; (fail)) | (intro _ _ k; try have hcv := cv k))); (have sc := (S3.below hT).cell; have hsz : w3.heap.size ≤ wo.heap.size := hT.size); refine Goes.mk ?_; first | (exact goes_app _ _ rfl rfl (own_nil _ w3.heap.size _) rfl (by assumption) (by omega) hsz) | (go_simp; first | exact goes_v | exact goes_b (by assumption) | fail | (refine goes_enter ?_; first | (go_at_call 35; ((with_reducible refine (two_any s.src a0 a1 wo).mono ?_); rintro e w9 ⟨A9, c9, rfl, ho9, hB9⟩); exact ret_b ho9.bs hB9) | (go_at_call 35; ((with_reducible refine (two_any s.dst d0 d1 wo).mono ?_); rintro e w9 ⟨A9, c9, rfl, ho9, hB9⟩); exact ret_b ho9.bs hB9))))) | (apply ObsK.b (by rfl); (intro wo hT; (repeat (first | (intro v hv; (fail)) | (intro _ _ k; try have hcv := cv k))); (have sc := (S3.below hT).cell; have hsz : w3.heap.size ≤ wo.heap.size := hT.size); refine Goes.mk ?_; first | (exact goes_app _ _ rfl rfl (own_nil _ w3.heap.size _) rfl (by assumption) (by omega) hsz) | (go_simp; first | exact goes_v | exact goes_b (by assumption) | fail | (refine goes_enter ?_; first | (go_at_call 35; ((with_reducible refine (two_any s.src a0 a1 wo).mono ?_); rintro e w9 ⟨A9, c9, rfl, ho9, hB9⟩); exact ret_b ho9.bs hB9) | (go_at_call 35; ((with_reducible refine (two_any s.dst d0 d1 wo).mono ?_); rintro e w9 ⟨A9, c9, rfl, ho9, hB9⟩); exact ret_b ho9.bs hB9))))) | (apply ObsK.p (q := isW w3.heap.size ([] ++ two s.src)) (by rfl) st_isW; (intro wo hT; (repeat (first | (intro v hv; (fail)) | (intro _ _ k; try have hcv := cv k))); (have sc := (S3.below hT).cell; have hsz : w3.heap.size ≤ wo.heap.size := hT.size); refine Goes.mk ?_; first | (exact goes_app _ _ rfl rfl (own_nil _ w3.heap.size _) rfl (by assumption) (by omega) hsz) | (go_simp; first | exact goes_v | exact goes_b (by assumption) | fail | (refine goes_enter ?_; first | (go_at_call 35; ((with_reducible refine (two_any s.src a0 a1 wo).mono ?_); rintro e w9 ⟨A9, c9, rfl, ho9, hB9⟩); exact ret_b ho9.bs hB9) | (go_at_call 35; ((with_reducible refine (two_any s.dst d0 d1 wo).mono ?_); rintro e w9 ⟨A9, c9, rfl, ho9, hB9⟩); exact ret_b ho9.bs hB9))))))); refine ObsK.nil ?_; intro wz hBz; simp only [finOn, List.drop_succ_cons, List.drop_zero, List.drop_nil]
  rintro A12 c12 k12 v4 ⟨A10, n10, c10, rfl, O10⟩ A9 c9 k9
  go_simp
  have u10 : n10 = 2 := by rw [← O10.len]; rfl
  subst u10
  clear k9
  have z3l := Z3.lt
  rcases Bool.eq_false_or_eq_true s.bare with hb | hb
  · have HS : Hid (dL s = dS p s) := by unfold Hid dS; rw [hb, if_pos rfl]
    clear hsum hzz
    go_wp2_with (first
    | (at_builtin; refine wpList_append_bs (w0 := w3) _ rfl _ _ _ rfl w3.heap.size 5 Try.underlying24 info_u8 A10 2 c10 _ rfl O10 A12 2 c12 (two s.dst) rfl k12 hBz (by omega) (by first | exact Nat.le_refl _ | exact Below.size hBz | omega | (simp <;> omega)) ?_; intro A14 n14 c14 w14 O14' hB14 _ hz14; have u14 : 4 = n14 := (by rw [← O14'.len]; rfl); subst u14; have S14 := S3.below hB14; have sc14 := S14.cell)
    | (go_at_call 35; ((with_reducible refine (two_any z z0 z1 w14).mono ?_); rintro e w16 ⟨A16, c16, rfl, o16, hB16⟩); have O15' := O14'.below hB16; have T16 := below_then hB14 hB16)
    | (at_builtin; refine wpList_append_bs (w0 := w3) _ rfl _ _ _ rfl w3.heap.size 5 Try.underlying24 info_u8 A14 4 c14 _ rfl O15' A16 2 c16 (two z) rfl o16.bs T16 (by omega) (by first | exact Nat.le_refl _ | exact Below.size T16 | omega | (simp <;> omega)) ?_; intro A17 n17 c17 w17 O17 hB17 _ hz17; have u17 : 6 = n17 := (by rw [← O17.len]; rfl); subst u17)
    | (at_builtin; refine wpList_append_bs (w0 := w3) _ rfl _ _ _ rfl w3.heap.size 5 Try.underlying24 info_u8 A17 6 c17 _ rfl (O17.alloc _) (some ⟨_, 0, none⟩) 2 2 _ rfl (bs00 w17) (hB17.alloc hB17.size _) (by omega) (by first | exact Nat.le_refl _ | exact Below.size (hB17.alloc hB17.size _) | omega | (simp <;> omega)) ?_; intro A18 n18 c18 w18 O18 hB18 _ hz18; have u18 : 8 = n18 := (by rw [← O18.len]; rfl); subst u18; have S18 := S3.below hB18; have sc18 := S18.cell; have d18 := yy3.below hB18)
    | (at_builtin; refine wpList_append_bs (w0 := w3) _ rfl _ _ _ rfl w3.heap.size 5 Try.underlying24 info_u8 A18 8 c18 _ rfl O18 DA dn dc _ rfl d18 hB18 (by omega) (by first | exact Nat.le_refl _ | exact Below.size hB18 | omega | (simp <;> omega)) ?_; intro A22 n22 c22 w22 O22 hB22 _ hz22; rw [HX.out] at O22; have u22 : n22 ≤ 65535 := (by have h1 := O22.len; rw [HN.out] at h1; omega); have P22 := P3.below hB22; have pc22 := P22.cell; have S22 := S3.below hB22; have sc22 := S22.cell; have O22b := O22.bs; have xx22 := xx3.below hB22)
    | (go_at_call 37; ((with_reducible refine (hw1' w22 A22 n22 c22 xx22 (HS.out ▸ O22b)).mono ?_); rintro e w27 ⟨D1, g1', h1', D2, g2', h2', rfl, O13, O14, hB27⟩); have T27 := below_then hB22 hB27; have Z27 := Z3.below T27; have zc27 := Z27.cell))
    obtain ⟨wf, hwf, Sf⟩ := store9 Z27 (.int .u8 p.tos) (.int .u16 p.id) (.bool p.keep) (.int .u8 p.ttl) (.int .u8 17) (.int .u32 p.src) (.int .u32 p.dst) (.slice D1 g1' h1') (.slice D2 g2' h2')
    rw [hwf]
    have pf := Sf.blk.cell
    have t26 := hB22.size
    have Of := Sf.own O13 (fun a e => by have := O13.ge a e; omega)
    have Df := Sf.own O14 (fun a e => by have := O14.ge a e; omega)
    exact bodyPost_ret (v := .tuple #[.agg #[.int .u8 p.tos, .int .u16 p.id, .bool p.keep, .int .u8 p.ttl, .int .u8 17, .int .u32 p.src, .int .u32 p.dst, .slice D1 g1' h1', .slice D2 g2' h2'], .int .i64 0]) (by simp [results, Try.results20, go_sem, pf]) rfl (by rw [HE.out, HP.out]; exact ⟨⟨D1, g1', h1', D2, g2', h2', rfl, Of.mono (by omega), Df.mono (by omega), Sf.bel (below_then R3 T27) (by omega)⟩⟩)
  · have hsum2 := fun W A n c hn bo => (hsum W A n c hn bo)
    by_cases hz0 : zz = 0
    · subst hz0
      have HS : Hid (put16 (dL s) 6 65535 = dS p s) := by unfold Hid dS dZ; rw [hb, hzz]; rfl
      clear hzz
      go_wp2_with (first
      | (at_builtin; refine wpList_append_bs (w0 := w3) _ rfl _ _ _ rfl w3.heap.size 5 Try.underlying24 info_u8 A10 2 c10 _ rfl O10 A12 2 c12 (two s.dst) rfl k12 hBz (by omega) (by first | exact Nat.le_refl _ | exact Below.size hBz | omega | (simp <;> omega)) ?_; intro A14 n14 c14 w14 O14' hB14 _ hz14; have u14 : 4 = n14 := (by rw [← O14'.len]; rfl); subst u14; have S14 := S3.below hB14; have sc14 := S14.cell)
      | (go_at_call 35; ((with_reducible refine (two_any z z0 z1 w14).mono ?_); rintro e w16 ⟨A16, c16, rfl, o16, hB16⟩); have O15' := O14'.below hB16; have T16 := below_then hB14 hB16)
      | (at_builtin; refine wpList_append_bs (w0 := w3) _ rfl _ _ _ rfl w3.heap.size 5 Try.underlying24 info_u8 A14 4 c14 _ rfl O15' A16 2 c16 (two z) rfl o16.bs T16 (by omega) (by first | exact Nat.le_refl _ | exact Below.size T16 | omega | (simp <;> omega)) ?_; intro A17 n17 c17 w17 O17 hB17 _ hz17; have u17 : 6 = n17 := (by rw [← O17.len]; rfl); subst u17)
      | (at_builtin; refine wpList_append_bs (w0 := w3) _ rfl _ _ _ rfl w3.heap.size 5 Try.underlying24 info_u8 A17 6 c17 _ rfl (O17.alloc _) (some ⟨_, 0, none⟩) 2 2 _ rfl (bs00 w17) (hB17.alloc hB17.size _) (by omega) (by first | exact Nat.le_refl _ | exact Below.size (hB17.alloc hB17.size _) | omega | (simp <;> omega)) ?_; intro A18 n18 c18 w18 O18 hB18 _ hz18; have u18 : 8 = n18 := (by rw [← O18.len]; rfl); subst u18; have S18 := S3.below hB18; have sc18 := S18.cell; have d18 := yy3.below hB18)
      | (at_builtin; refine wpList_append_bs (w0 := w3) _ rfl _ _ _ rfl w3.heap.size 5 Try.underlying24 info_u8 A18 8 c18 _ rfl O18 DA dn dc _ rfl d18 hB18 (by omega) (by first | exact Nat.le_refl _ | exact Below.size hB18 | omega | (simp <;> omega)) ?_; intro A22 n22 c22 w22 O22 hB22 _ hz22; rw [HX.out] at O22; have u22 : n22 ≤ 65535 := (by have h1 := O22.len; rw [HN.out] at h1; omega); have P22 := P3.below hB22; have pc22 := P22.cell; have S22 := S3.below hB22; have sc22 := S22.cell; have O22b := O22.bs; have xx22 := xx3.below hB22)
      | (go_at_call 39; ((with_reducible refine (hsum2 w22 A22 n22 c22 u22 O22b).mono ?_); rintro e w25 ⟨rfl, hB25⟩); have T25 := below_then hB22 hB25; have O25 := O22b.below hB25)
      | (go_at_call 38; ((with_reducible refine (rput16_any A22 n22 c22 (dL s) 6 65535 (by omega) (by omega) _ O25).mono ?_); rintro e w26 ⟨A26, c26, rfl, O26, hB26⟩); rw [HS.out] at O26; have O26b := O26.bs; have T26 := below_then T25 hB26; have P26 := P3.below T26; have pc26 := P26.cell; have xx26 := xx3.below T26)
      | (go_at_call 37; ((with_reducible refine (hw1' w26 A26 n22 c26 xx26 O26b).mono ?_); rintro e w27 ⟨D1, g1', h1', D2, g2', h2', rfl, O13, O14, hB27⟩); have T27 := below_then T26 hB27; have Z27 := Z3.below T27; have zc27 := Z27.cell))
      obtain ⟨wf, hwf, Sf⟩ := store9 Z27 (.int .u8 p.tos) (.int .u16 p.id) (.bool p.keep) (.int .u8 p.ttl) (.int .u8 17) (.int .u32 p.src) (.int .u32 p.dst) (.slice D1 g1' h1') (.slice D2 g2' h2')
      rw [hwf]
      have pf := Sf.blk.cell
      have t26 := T26.size
      have Of := Sf.own O13 (fun a e => by have := O13.ge a e; omega)
      have Df := Sf.own O14 (fun a e => by have := O14.ge a e; omega)
      exact bodyPost_ret (v := .tuple #[.agg #[.int .u8 p.tos, .int .u16 p.id, .bool p.keep, .int .u8 p.ttl, .int .u8 17, .int .u32 p.src, .int .u32 p.dst, .slice D1 g1' h1', .slice D2 g2' h2'], .int .i64 0]) (by simp [results, Try.results20, go_sem, pf]) rfl (by rw [HE.out, HP.out]; exact ⟨⟨D1, g1', h1', D2, g2', h2', rfl, Of.mono (by omega), Df.mono (by omega), Sf.bel (below_then R3 T27) (by omega)⟩⟩)
    · have HS : Hid (put16 (dL s) 6 zz = dS p s) := by unfold Hid dS dZ; rw [hb, hzz, if_neg hz0]; rfl
      have z0b : (zz == 0) = false := by simpa using hz0
      clear hzz
      go_wp2_with (first
      | (at_builtin; refine wpList_append_bs (w0 := w3) _ rfl _ _ _ rfl w3.heap.size 5 Try.underlying24 info_u8 A10 2 c10 _ rfl O10 A12 2 c12 (two s.dst) rfl k12 hBz (by omega) (by first | exact Nat.le_refl _ | exact Below.size hBz | omega | (simp <;> omega)) ?_; intro A14 n14 c14 w14 O14' hB14 _ hz14; have u14 : 4 = n14 := (by rw [← O14'.len]; rfl); subst u14; have S14 := S3.below hB14; have sc14 := S14.cell)
      | (go_at_call 35; ((with_reducible refine (two_any z z0 z1 w14).mono ?_); rintro e w16 ⟨A16, c16, rfl, o16, hB16⟩); have O15' := O14'.below hB16; have T16 := below_then hB14 hB16)
      | (at_builtin; refine wpList_append_bs (w0 := w3) _ rfl _ _ _ rfl w3.heap.size 5 Try.underlying24 info_u8 A14 4 c14 _ rfl O15' A16 2 c16 (two z) rfl o16.bs T16 (by omega) (by first | exact Nat.le_refl _ | exact Below.size T16 | omega | (simp <;> omega)) ?_; intro A17 n17 c17 w17 O17 hB17 _ hz17; have u17 : 6 = n17 := (by rw [← O17.len]; rfl); subst u17)
      | (at_builtin; refine wpList_append_bs (w0 := w3) _ rfl _ _ _ rfl w3.heap.size 5 Try.underlying24 info_u8 A17 6 c17 _ rfl (O17.alloc _) (some ⟨_, 0, none⟩) 2 2 _ rfl (bs00 w17) (hB17.alloc hB17.size _) (by omega) (by first | exact Nat.le_refl _ | exact Below.size (hB17.alloc hB17.size _) | omega | (simp <;> omega)) ?_; intro A18 n18 c18 w18 O18 hB18 _ hz18; have u18 : 8 = n18 := (by rw [← O18.len]; rfl); subst u18; have S18 := S3.below hB18; have sc18 := S18.cell; have d18 := yy3.below hB18)
      | (at_builtin; refine wpList_append_bs (w0 := w3) _ rfl _ _ _ rfl w3.heap.size 5 Try.underlying24 info_u8 A18 8 c18 _ rfl O18 DA dn dc _ rfl d18 hB18 (by omega) (by first | exact Nat.le_refl _ | exact Below.size hB18 | omega | (simp <;> omega)) ?_; intro A22 n22 c22 w22 O22 hB22 _ hz22; rw [HX.out] at O22; have u22 : n22 ≤ 65535 := (by have h1 := O22.len; rw [HN.out] at h1; omega); have P22 := P3.below hB22; have pc22 := P22.cell; have S22 := S3.below hB22; have sc22 := S22.cell; have O22b := O22.bs; have xx22 := xx3.below hB22)
      | (go_at_call 39; ((with_reducible refine (hsum2 w22 A22 n22 c22 u22 O22b).mono ?_); rintro e w25 ⟨rfl, hB25⟩); have T25 := below_then hB22 hB25; have O25 := O22b.below hB25)
      | (go_at_call 38; ((with_reducible refine (rput16_any A22 n22 c22 (dL s) 6 zz zz0 zz1 _ O25).mono ?_); rintro e w26 ⟨A26, c26, rfl, O26, hB26⟩); rw [HS.out] at O26; have O26b := O26.bs; have T26 := below_then T25 hB26; have P26 := P3.below T26; have pc26 := P26.cell; have xx26 := xx3.below T26)
      | (go_at_call 37; ((with_reducible refine (hw1' w26 A26 n22 c26 xx26 O26b).mono ?_); rintro e w27 ⟨D1, g1', h1', D2, g2', h2', rfl, O13, O14, hB27⟩); have T27 := below_then T26 hB27; have Z27 := Z3.below T27; have zc27 := Z27.cell))
      obtain ⟨wf, hwf, Sf⟩ := store9 Z27 (.int .u8 p.tos) (.int .u16 p.id) (.bool p.keep) (.int .u8 p.ttl) (.int .u8 17) (.int .u32 p.src) (.int .u32 p.dst) (.slice D1 g1' h1') (.slice D2 g2' h2')
      rw [hwf]
      have pf := Sf.blk.cell
      have t26 := T26.size
      have Of := Sf.own O13 (fun a e => by have := O13.ge a e; omega)
      have Df := Sf.own O14 (fun a e => by have := O14.ge a e; omega)
      exact bodyPost_ret (v := .tuple #[.agg #[.int .u8 p.tos, .int .u16 p.id, .bool p.keep, .int .u8 p.ttl, .int .u8 17, .int .u32 p.src, .int .u32 p.dst, .slice D1 g1' h1', .slice D2 g2' h2'], .int .i64 0]) (by simp [results, Try.results20, go_sem, pf]) rfl (by rw [HE.out, HP.out]; exact ⟨⟨D1, g1', h1', D2, g2', h2', rfl, Of.mono (by omega), Df.mono (by omega), Sf.bel (below_then R3 T27) (by omega)⟩⟩)
end Go.Proofs.Ythgoffbfgdgkpaa

/- Messages: whether two are the same; what one is. -/
namespace Go.Proofs.Ythgoffbfgdgkpaa
open Go.RowKit
set_option linter.unusedVariables false
set_option linter.unusedSimpArgs false
set_option maxHeartbeats 4000000
set_option maxRecDepth 100000

structure Msg where
  ty : Int
  code : Int
  rest : Int
  dat : List UInt8
structure Msg.Ok (m : Msg) : Prop where
  ty : 0 ≤ m.ty ∧ m.ty ≤ 255
  code : 0 ≤ m.code ∧ m.code ≤ 255
  rest : 0 ≤ m.rest ∧ m.rest ≤ 4294967295
def zM : Msg := ⟨0, 0, 0, []⟩
def sameM (m n : Msg) : Bool := m.ty == n.ty && m.code == n.code && m.rest == n.rest && m.dat == n.dat
theorem sameM_self (m : Msg) : sameM m m = true := by simp [sameM]
theorem beq_comm' {α : Type} [BEq α] [LawfulBEq α] (a b : α) : (a == b) = (b == a) := by rw [Bool.eq_iff_iff, beq_iff_eq, beq_iff_eq]; exact ⟨Eq.symm, Eq.symm⟩
theorem sameM_comm (m n : Msg) : sameM m n = sameM n m := by unfold sameM; rw [beq_comm' m.ty, beq_comm' m.code, beq_comm' m.rest, beq_comm' m.dat]
def isErrM (m : Msg) : Bool := m.ty == 3 || m.ty == 11 || m.ty == 12
def isEchoM (m : Msg) : Bool := (m.ty == 8 || m.ty == 0) && m.code == 0
def asksM (m : Msg) : Bool := m.ty == 8 && m.code == 0
theorem riserr_any (m : Msg) (A1 : Option Addr) (n1 c1 : Nat) (w : World) :
    Calls Try.prog 67 #[(.agg #[.int .u8 (m).ty, .int .u8 (m).code, .int .u32 (m).rest, .slice A1 n1 c1])] w fun e w' => e = .returned (.bool (isErrM m)) ∧ Below w.heap.size w w' := by
  go_enter Try.func67, Try.ntmps67
  go_wp2_with fail
  all_goals go_ret
  all_goals refine ⟨?_, by (repeat (first | with_reducible exact Below.refl _ _ | with_reducible refine below_drew ?_ | with_reducible refine below_drewN ?_ _ | with_reducible refine below_alloc ?_ (Nat.le_refl _) _ | with_reducible refine Below.setCell ?_ (by first | exact Nat.le_refl _ | (simp only []; omega)) _ | with_reducible assumption))⟩
  all_goals simp_all [isErrM]
theorem risecho_any (m : Msg) (A1 : Option Addr) (n1 c1 : Nat) (w : World) :
    Calls Try.prog 23 #[(.agg #[.int .u8 (m).ty, .int .u8 (m).code, .int .u32 (m).rest, .slice A1 n1 c1])] w fun e w' => e = .returned (.bool (isEchoM m)) ∧ Below w.heap.size w w' := by
  go_enter Try.func23, Try.ntmps23
  go_wp2_with fail
  all_goals go_ret
  all_goals refine ⟨?_, by (repeat (first | with_reducible exact Below.refl _ _ | with_reducible refine below_drew ?_ | with_reducible refine below_drewN ?_ _ | with_reducible refine below_alloc ?_ (Nat.le_refl _) _ | with_reducible refine Below.setCell ?_ (by first | exact Nat.le_refl _ | (simp only []; omega)) _ | with_reducible assumption))⟩
  all_goals simp_all [isEchoM]
theorem andNot8_tab : ∀ a : Fin 256, (bits .andNot .u8 (a.val : Int) 8 == 0) = ((a.val : Int) == 8 || (a.val : Int) == 0) := by decide +kernel
theorem andNot8 {x : Int} (h0 : 0 ≤ x) (h1 : x ≤ 255) : (bits .andNot .u8 x 8 == 0) = (x == 8 || x == 0) := by
  have h := andNot8_tab ⟨x.toNat, by omega⟩
  have e : ((x.toNat : Nat) : Int) = x := by omega
  simp only [e] at h
  exact h
theorem isecho_any (m : Msg) (hm : m.Ok) (A1 : Option Addr) (n1 c1 : Nat) (w : World) :
    Calls Try.prog 72 #[(.agg #[.int .u8 (m).ty, .int .u8 (m).code, .int .u32 (m).rest, .slice A1 n1 c1])] w fun e w' => e = .returned (.bool (isEchoM m)) ∧ Below w.heap.size w w' := by
  have hn := andNot8 hm.ty.1 hm.ty.2
  go_enter Try.func72, Try.ntmps72
  go_wp2_with fail
  all_goals go_ret
  all_goals refine ⟨?_, by (repeat (first | with_reducible exact Below.refl _ _ | with_reducible refine below_drew ?_ | with_reducible refine below_drewN ?_ _ | with_reducible refine below_alloc ?_ (Nat.le_refl _) _ | with_reducible refine Below.setCell ?_ (by first | exact Nat.le_refl _ | (simp only []; omega)) _ | with_reducible assumption))⟩
  all_goals simp_all [isEchoM]
end Go.Proofs.Ythgoffbfgdgkpaa

/- A packet's message. -/
namespace Go.Proofs.Ythgoffbfgdgkpaa
open Go.RowKit
set_option linter.unusedVariables false
set_option linter.unusedSimpArgs false
set_option linter.unusedSimpArgs false
set_option maxHeartbeats 4000000
set_option maxRecDepth 100000

def icE (p : Pkt) : Int := if p.proto ≠ 1 then 12 else if (p.dat.length : Int) < 8 then 3 else if csum p.dat ≠ 0 then 5 else 0
def icM (p : Pkt) : Msg := if icE p = 0 then ⟨bt p.dat 0, bt p.dat 1, get32 p.dat 4, p.dat.drop 8⟩ else zM
theorem icM_ok (p : Pkt) : (icM p).Ok := by
  unfold icM; split
  · exact ⟨⟨bt_lo _ _, bt_hi _ _⟩, ⟨bt_lo _ _, bt_hi _ _⟩, ⟨get32_lo _ _, get32_hi _ _⟩⟩
  · exact ⟨⟨by decide, by decide⟩, ⟨by decide, by decide⟩, ⟨by decide, by decide⟩⟩
structure MsPost (w : World) (M : Msg) (E : Int) (e : Ending) (w' : World) : Prop where
  out : ∃ B m d, e = .returned (.tuple #[(.agg #[.int .u8 (M).ty, .int .u8 (M).code, .int .u32 (M).rest, .slice B m d]), .int .i64 E]) ∧ Own w' w.heap.size 5 B m d M.dat ∧ Below w.heap.size w w'
theorem msPost_no {w w' : World} {E : Int} (hB : Below w.heap.size w w') : MsPost w zM E (.returned (.tuple #[.agg #[.int .u8 0, .int .u8 0, .int .u32 0, .slice none 0 0], .int .i64 E])) w' :=
  ⟨none, 0, 0, rfl, own_nil _ _ _, hB⟩
theorem icmp_no (p : Pkt) (A1 : Option Addr) (n1 c1 : Nat) (A2 : Option Addr) (n2 c2 : Nat) (w : World) (k2 : Bs w A2 n2 c2 p.dat) (E : Int)
    (h : (E = 12 ∧ (p.proto != 1) = true) ∨ (E = 3 ∧ (p.proto != 1) = false ∧ (n2 : Int) < 8) ∨ (E = 5 ∧ (p.proto != 1) = false ∧ 8 ≤ (n2 : Int) ∧ (csum p.dat == 0) = false)) :
    Calls Try.prog 41 #[(.agg #[.int .u8 (p).tos, .int .u16 (p).id, .bool (p).keep, .int .u8 (p).ttl, .int .u8 (p).proto, .int .u32 (p).src, .int .u32 (p).dst, .slice A1 n1 c1, .slice A2 n2 c2])] w (MsPost w zM E) := by
  have b2 := k2.max
  obtain ⟨k, hk⟩ : ∃ k : Nat, w.heap.size = k := ⟨_, rfl⟩
  obtain ⟨w1, hw1⟩ : ∃ w1, (w.alloc (.cells #[.int .u8 (p).tos, .int .u16 (p).id, .bool (p).keep, .int .u8 (p).ttl, .int .u8 (p).proto, .int .u32 (p).src, .int .u32 (p).dst, .slice A1 n1 c1, .slice A2 n2 c2] 26)).alloc (.cells #[.int .u8 0, .int .u8 0, .int .u32 0, .slice none 0 0] 49) = w1 := ⟨_, rfl⟩
  have P1 : Blk w1 k #[.int .u8 (p).tos, .int .u16 (p).id, .bool (p).keep, .int .u8 (p).ttl, .int .u8 (p).proto, .int .u32 (p).src, .int .u32 (p).dst, .slice A1 n1 c1, .slice A2 n2 c2] 26 := by rw [← hw1]; exact (blk_new w _ _ k hk).alloc _
  have Z1 : Blk w1 (k + 1) #[.int .u8 0, .int .u8 0, .int .u32 0, .slice none 0 0] 49 := by rw [← hw1]; exact blk_new _ _ _ (k + 1) (by simp [hk])
  have R1 : Below w.heap.size w w1 := by rw [← hw1]; (repeat (first | with_reducible exact Below.refl _ _ | with_reducible refine below_drew ?_ | with_reducible refine below_drewN ?_ _ | with_reducible refine below_alloc ?_ (Nat.le_refl _) _ | with_reducible refine Below.setCell ?_ (by first | exact Nat.le_refl _ | (simp only []; omega)) _ | with_reducible assumption))
  have x2 := k2.below R1
  have pc := P1.cell
  have zc := Z1.cell
  obtain ⟨wf, hwf, Sf⟩ := store4 Z1 (.int .u8 0) (.int .u8 0) (.int .u32 0) (.slice none 0 0)
  have pf := Sf.blk.cell
  have Tf := Sf.bel R1 (by omega)
  rcases h with ⟨rfl, h1⟩ | ⟨rfl, h1, h2⟩ | ⟨rfl, h1, h2, h3⟩
  · go_enter Try.func41, Try.ntmps41
    go_wp2_with fail
    exact bodyPost_ret (by simp [results, Try.results41, go_sem, pf]) rfl (msPost_no Tf)
  · go_enter Try.func41, Try.ntmps41
    go_wp2_with fail
    exact bodyPost_ret (by simp [results, Try.results41, go_sem, pf]) rfl (msPost_no Tf)
  · go_enter Try.func41, Try.ntmps41
    clear hwf Sf pf Tf
    go_wp2_with (go_at_call 62; ((with_reducible refine (good_any A2 n2 c2 p.dat _ x2).mono ?_); rintro e w2 ⟨he2, hB2⟩); (try rw [h3] at he2); subst he2; have Z2 := Z1.below hB2; have zc2 := Z2.cell)
    obtain ⟨wf, hwf, Sf⟩ := store4 Z2 (.int .u8 0) (.int .u8 0) (.int .u32 0) (.slice none 0 0)
    rw [hwf]
    have pf := Sf.blk.cell
    exact bodyPost_ret (by simp [results, Try.results41, go_sem, pf]) rfl (msPost_no (Sf.bel (below_then R1 hB2) (by omega)))
theorem ricmp_no (p : Pkt) (A1 : Option Addr) (n1 c1 : Nat) (A2 : Option Addr) (n2 c2 : Nat) (w : World) (k2 : Bs w A2 n2 c2 p.dat) (hn2 : n2 ≤ 17592186044416) (E : Int)
    (h : (E = 12 ∧ (p.proto != 1) = true) ∨ (E = 3 ∧ (p.proto != 1) = false ∧ (n2 : Int) < 8) ∨ (E = 5 ∧ (p.proto != 1) = false ∧ 8 ≤ (n2 : Int) ∧ (csum p.dat == 0) = false)) :
    Calls Try.prog 31 #[(.agg #[.int .u8 (p).tos, .int .u16 (p).id, .bool (p).keep, .int .u8 (p).ttl, .int .u8 (p).proto, .int .u32 (p).src, .int .u32 (p).dst, .slice A1 n1 c1, .slice A2 n2 c2])] w (MsPost w zM E) := by
  have b2 := k2.max
  obtain ⟨k, hk⟩ : ∃ k : Nat, w.heap.size = k := ⟨_, rfl⟩
  obtain ⟨w1, hw1⟩ : ∃ w1, (w.alloc (.cells #[.int .u8 (p).tos, .int .u16 (p).id, .bool (p).keep, .int .u8 (p).ttl, .int .u8 (p).proto, .int .u32 (p).src, .int .u32 (p).dst, .slice A1 n1 c1, .slice A2 n2 c2] 26)).alloc (.cells #[.int .u8 0, .int .u8 0, .int .u32 0, .slice none 0 0] 49) = w1 := ⟨_, rfl⟩
  have P1 : Blk w1 k #[.int .u8 (p).tos, .int .u16 (p).id, .bool (p).keep, .int .u8 (p).ttl, .int .u8 (p).proto, .int .u32 (p).src, .int .u32 (p).dst, .slice A1 n1 c1, .slice A2 n2 c2] 26 := by rw [← hw1]; exact (blk_new w _ _ k hk).alloc _
  have Z1 : Blk w1 (k + 1) #[.int .u8 0, .int .u8 0, .int .u32 0, .slice none 0 0] 49 := by rw [← hw1]; exact blk_new _ _ _ (k + 1) (by simp [hk])
  have R1 : Below w.heap.size w w1 := by rw [← hw1]; (repeat (first | with_reducible exact Below.refl _ _ | with_reducible refine below_drew ?_ | with_reducible refine below_drewN ?_ _ | with_reducible refine below_alloc ?_ (Nat.le_refl _) _ | with_reducible refine Below.setCell ?_ (by first | exact Nat.le_refl _ | (simp only []; omega)) _ | with_reducible assumption))
  have x2 := k2.below R1
  have pc := P1.cell
  have zc := Z1.cell
  obtain ⟨wf, hwf, Sf⟩ := store4 Z1 (.int .u8 0) (.int .u8 0) (.int .u32 0) (.slice none 0 0)
  have pf := Sf.blk.cell
  have Tf := Sf.bel R1 (by omega)
  rcases h with ⟨rfl, h1⟩ | ⟨rfl, h1, h2⟩ | ⟨rfl, h1, h2, h3⟩
  · go_enter Try.func31, Try.ntmps31
    go_wp2_with fail
    exact bodyPost_ret (by simp [results, Try.results31, go_sem, pf]) rfl (msPost_no Tf)
  · go_enter Try.func31, Try.ntmps31
    go_wp2_with fail
    exact bodyPost_ret (by simp [results, Try.results31, go_sem, pf]) rfl (msPost_no Tf)
  · go_enter Try.func31, Try.ntmps31
    clear hwf Sf pf Tf
    go_wp2_with (go_at_call 57; ((with_reducible refine (rgood_any A2 n2 c2 p.dat hn2 _ x2).mono ?_); rintro e w2 ⟨he2, hB2⟩); (try rw [h3] at he2); subst he2; have Z2 := Z1.below hB2; have zc2 := Z2.cell)
    obtain ⟨wf, hwf, Sf⟩ := store4 Z2 (.int .u8 0) (.int .u8 0) (.int .u32 0) (.slice none 0 0)
    rw [hwf]
    have pf := Sf.blk.cell
    exact bodyPost_ret (by simp [results, Try.results31, go_sem, pf]) rfl (msPost_no (Sf.bel (below_then R1 hB2) (by omega)))
theorem icmp_ok (p : Pkt) (A1 : Option Addr) (n1 c1 : Nat) (A2 : Option Addr) (n2 c2 : Nat) (w : World) (k2 : Bs w A2 n2 c2 p.dat) 
    (h1 : (p.proto != 1) = false) (h2 : 8 ≤ (n2 : Int)) (h3 : (csum p.dat == 0) = true) :
    Calls Try.prog 41 #[(.agg #[.int .u8 (p).tos, .int .u16 (p).id, .bool (p).keep, .int .u8 (p).ttl, .int .u8 (p).proto, .int .u32 (p).src, .int .u32 (p).dst, .slice A1 n1 c1, .slice A2 n2 c2])] w (MsPost w ⟨bt p.dat 0, bt p.dat 1, get32 p.dat 4, p.dat.drop 8⟩ 0) := by
  have hlL : p.dat.take n2 = p.dat := List.take_of_length_le (by rw [k2.len]; exact Nat.le_refl _)
  obtain ⟨i8, hi8, -, hs8, -⟩ := info_parts info_u8
  have b2 := k2.max
  have hcap := k2.cap
  obtain ⟨b, off, rfl⟩ := k2.some_ (by omega)
  have hcut : ∀ W, (Instr.slice 24 (.slice (some ⟨b, off, none⟩) n2 c2) (some (.int .i64 8)) none none).run Try.prog W = _ := fun W => cut_l Try.underlying24 hi8 hs8 (some ⟨b, off, none⟩) n2 c2 .i64 8 (by omega) (by omega) W
  obtain ⟨A', n', c', eA, en, ec, hbD⟩ := k2.cutE (lo := 8) (hi := n2) (by omega) (Nat.le_refl _)
  simp only [show (8 : Int).toNat = 8 from rfl, eA, en, ec] at hcut
  rw [hlL] at hbD
  have hn' : n' ≤ n2 := by omega
  clear eA en ec hlL
  obtain ⟨k, hk⟩ : ∃ k : Nat, w.heap.size = k := ⟨_, rfl⟩
  obtain ⟨w1, hw1⟩ : ∃ w1, (w.alloc (.cells #[.int .u8 (p).tos, .int .u16 (p).id, .bool (p).keep, .int .u8 (p).ttl, .int .u8 (p).proto, .int .u32 (p).src, .int .u32 (p).dst, .slice A1 n1 c1, .slice (some ⟨b, off, none⟩) n2 c2] 26)).alloc (.cells #[.int .u8 0, .int .u8 0, .int .u32 0, .slice none 0 0] 49) = w1 := ⟨_, rfl⟩
  have P1 : Blk w1 k #[.int .u8 (p).tos, .int .u16 (p).id, .bool (p).keep, .int .u8 (p).ttl, .int .u8 (p).proto, .int .u32 (p).src, .int .u32 (p).dst, .slice A1 n1 c1, .slice (some ⟨b, off, none⟩) n2 c2] 26 := by rw [← hw1]; exact (blk_new w _ _ k hk).alloc _
  have Z1 : Blk w1 (k + 1) #[.int .u8 0, .int .u8 0, .int .u32 0, .slice none 0 0] 49 := by rw [← hw1]; exact blk_new _ _ _ (k + 1) (by simp [hk])
  have R1 : Below w.heap.size w w1 := by rw [← hw1]; (repeat (first | with_reducible exact Below.refl _ _ | with_reducible refine below_drew ?_ | with_reducible refine below_drewN ?_ _ | with_reducible refine below_alloc ?_ (Nat.le_refl _) _ | with_reducible refine Below.setCell ?_ (by first | exact Nat.le_refl _ | (simp only []; omega)) _ | with_reducible assumption))
  have x2 := k2.below R1
  have pc := P1.cell
  have zc := Z1.cell
  go_enter Try.func41, Try.ntmps41
  go_wp2_with (go_at_call 62; ((with_reducible refine (good_any (some ⟨b, off, none⟩) n2 c2 p.dat _ x2).mono ?_); rintro e w2 ⟨he2, hB2⟩); (try rw [h3] at he2); subst he2; have Z2 := Z1.below hB2; have zc2 := Z2.cell)
  have x3 := x2.below hB2
  have T2 := below_then R1 hB2
  have hD := hbD.below T2
  have s2 := T2.size
  have q0 : 0 < n2 := by omega
  have q0' : (0 : Int) < n2 := by omega
  have q1 : (1 : Int) < n2 := by omega
  refine region_txt 11 (by kernel_rfl) (by kernel_rfl) ?_; (iterate 11 (first | (apply ObsK.skip (by rfl)) | (apply ObsK.v (by rfl); (intro wo hT; (repeat (first | (intro v hv; (skip)) | (intro _ _ k; try have hcv := cv k))); (have bo := x3.below hT; have c0 := bo.at_ (j := 0) (by omega); rw [Nat.add_zero] at c0; have c1 := bo.at_ (j := 1) (by omega); have hsz : w2.heap.size ≤ wo.heap.size := hT.size); refine Goes.mk ?_; go_simp; first | exact goes_v | exact goes_b (by assumption) | (refine goes_enter ?_; first | (go_at_call 63; ((with_reducible refine (get32_any (some ⟨b, off, none⟩) n2 c2 p.dat 4 wo bo).mono ?_); rintro e w5 ⟨rfl, hD5⟩); exact ret_v hD5.bel) | (go_at_call 64; ((with_reducible refine (clone_any A' n' c' _ wo (hD.below hT)).mono ?_); rintro e w5 ⟨A9, c9, rfl, ho9, hB9⟩); exact ret_p (own_isW ho9 hsz) hB9)))) | (apply ObsK.b (by rfl); (intro wo hT; (repeat (first | (intro v hv; (skip)) | (intro _ _ k; try have hcv := cv k))); (have bo := x3.below hT; have c0 := bo.at_ (j := 0) (by omega); rw [Nat.add_zero] at c0; have c1 := bo.at_ (j := 1) (by omega); have hsz : w2.heap.size ≤ wo.heap.size := hT.size); refine Goes.mk ?_; go_simp; first | exact goes_v | exact goes_b (by assumption) | (refine goes_enter ?_; first | (go_at_call 63; ((with_reducible refine (get32_any (some ⟨b, off, none⟩) n2 c2 p.dat 4 wo bo).mono ?_); rintro e w5 ⟨rfl, hD5⟩); exact ret_v hD5.bel) | (go_at_call 64; ((with_reducible refine (clone_any A' n' c' _ wo (hD.below hT)).mono ?_); rintro e w5 ⟨A9, c9, rfl, ho9, hB9⟩); exact ret_p (own_isW ho9 hsz) hB9)))) | (apply ObsK.p (q := isW w2.heap.size _) (by rfl) st_isW; (intro wo hT; (repeat (first | (intro v hv; (skip)) | (intro _ _ k; try have hcv := cv k))); (have bo := x3.below hT; have c0 := bo.at_ (j := 0) (by omega); rw [Nat.add_zero] at c0; have c1 := bo.at_ (j := 1) (by omega); have hsz : w2.heap.size ≤ wo.heap.size := hT.size); refine Goes.mk ?_; go_simp; first | exact goes_v | exact goes_b (by assumption) | (refine goes_enter ?_; first | (go_at_call 63; ((with_reducible refine (get32_any (some ⟨b, off, none⟩) n2 c2 p.dat 4 wo bo).mono ?_); rintro e w5 ⟨rfl, hD5⟩); exact ret_v hD5.bel) | (go_at_call 64; ((with_reducible refine (clone_any A' n' c' _ wo (hD.below hT)).mono ?_); rintro e w5 ⟨A9, c9, rfl, ho9, hB9⟩); exact ret_p (own_isW ho9 hsz) hB9)))))); refine ObsK.nil ?_; intro wz hBz; simp only [finOn, List.drop_succ_cons, List.drop_zero, List.drop_nil]
  rintro v9 ⟨A9, n9, c9, rfl, O9⟩
  go_simp
  have Z3 := Z2.below hBz
  have zc3 := Z3.cell
  obtain ⟨wf, hwf, Sf⟩ := store4 Z3 (.int .u8 (bt p.dat 0)) (.int .u8 (bt p.dat 1)) (.int .u32 (get32 p.dat 4)) (.slice A9 n9 c9)
  have pf := Sf.blk.cell
  have Tf := Sf.bel (below_then T2 hBz) (by omega)
  have zl := Z2.lt
  have Of := Sf.own O9 (fun a e => by have := O9.ge a e; omega)
  go_wp2_with fail
  refine bodyPost_ret (v := .tuple #[.agg #[.int .u8 (bt p.dat 0), .int .u8 (bt p.dat 1), .int .u32 (get32 p.dat 4), .slice A9 n9 c9], .int .i64 0]) (by simp [results, Try.results41, go_sem, pf]) rfl ⟨A9, n9, c9, rfl, Of.mono s2, Tf⟩
theorem ricmp_ok (p : Pkt) (A1 : Option Addr) (n1 c1 : Nat) (A2 : Option Addr) (n2 c2 : Nat) (w : World) (k2 : Bs w A2 n2 c2 p.dat) (hn2 : n2 ≤ 17592186044416)
    (h1 : (p.proto != 1) = false) (h2 : 8 ≤ (n2 : Int)) (h3 : (csum p.dat == 0) = true) :
    Calls Try.prog 31 #[(.agg #[.int .u8 (p).tos, .int .u16 (p).id, .bool (p).keep, .int .u8 (p).ttl, .int .u8 (p).proto, .int .u32 (p).src, .int .u32 (p).dst, .slice A1 n1 c1, .slice A2 n2 c2])] w (MsPost w ⟨bt p.dat 0, bt p.dat 1, get32 p.dat 4, p.dat.drop 8⟩ 0) := by
  have hlL : p.dat.take n2 = p.dat := List.take_of_length_le (by rw [k2.len]; exact Nat.le_refl _)
  obtain ⟨i8, hi8, -, hs8, -⟩ := info_parts info_u8
  have b2 := k2.max
  have hcap := k2.cap
  obtain ⟨b, off, rfl⟩ := k2.some_ (by omega)
  have hcut : ∀ W, (Instr.slice 24 (.slice (some ⟨b, off, none⟩) n2 c2) (some (.int .i64 8)) none none).run Try.prog W = _ := fun W => cut_l Try.underlying24 hi8 hs8 (some ⟨b, off, none⟩) n2 c2 .i64 8 (by omega) (by omega) W
  obtain ⟨A', n', c', eA, en, ec, hbD⟩ := k2.cutE (lo := 8) (hi := n2) (by omega) (Nat.le_refl _)
  simp only [show (8 : Int).toNat = 8 from rfl, eA, en, ec] at hcut
  rw [hlL] at hbD
  have hn' : n' ≤ n2 := by omega
  clear eA en ec hlL
  obtain ⟨k, hk⟩ : ∃ k : Nat, w.heap.size = k := ⟨_, rfl⟩
  obtain ⟨w1, hw1⟩ : ∃ w1, (w.alloc (.cells #[.int .u8 (p).tos, .int .u16 (p).id, .bool (p).keep, .int .u8 (p).ttl, .int .u8 (p).proto, .int .u32 (p).src, .int .u32 (p).dst, .slice A1 n1 c1, .slice (some ⟨b, off, none⟩) n2 c2] 26)).alloc (.cells #[.int .u8 0, .int .u8 0, .int .u32 0, .slice none 0 0] 49) = w1 := ⟨_, rfl⟩
  have P1 : Blk w1 k #[.int .u8 (p).tos, .int .u16 (p).id, .bool (p).keep, .int .u8 (p).ttl, .int .u8 (p).proto, .int .u32 (p).src, .int .u32 (p).dst, .slice A1 n1 c1, .slice (some ⟨b, off, none⟩) n2 c2] 26 := by rw [← hw1]; exact (blk_new w _ _ k hk).alloc _
  have Z1 : Blk w1 (k + 1) #[.int .u8 0, .int .u8 0, .int .u32 0, .slice none 0 0] 49 := by rw [← hw1]; exact blk_new _ _ _ (k + 1) (by simp [hk])
  have R1 : Below w.heap.size w w1 := by rw [← hw1]; (repeat (first | with_reducible exact Below.refl _ _ | with_reducible refine below_drew ?_ | with_reducible refine below_drewN ?_ _ | with_reducible refine below_alloc ?_ (Nat.le_refl _) _ | with_reducible refine Below.setCell ?_ (by first | exact Nat.le_refl _ | (simp only []; omega)) _ | with_reducible assumption))
  have x2 := k2.below R1
  have pc := P1.cell
  have zc := Z1.cell
  go_enter Try.func31, Try.ntmps31
  go_wp2_with (go_at_call 57; ((with_reducible refine (rgood_any (some ⟨b, off, none⟩) n2 c2 p.dat hn2 _ x2).mono ?_); rintro e w2 ⟨he2, hB2⟩); (try rw [h3] at he2); subst he2; have Z2 := Z1.below hB2; have zc2 := Z2.cell)
  have x3 := x2.below hB2
  have T2 := below_then R1 hB2
  have hD := hbD.below T2
  have s2 := T2.size
  have q0 : 0 < n2 := by omega
  have q0' : (0 : Int) < n2 := by omega
  have q1 : (1 : Int) < n2 := by omega
  refine region_txt 10 (by kernel_rfl) (by kernel_rfl) ?_; (iterate 10 (first | (apply ObsK.skip (by rfl)) | (apply ObsK.v (by rfl); (intro wo hT; (repeat (first | (intro v hv; (skip)) | (intro _ _ k; try have hcv := cv k))); (have bo := x3.below hT; have c0 := bo.at_ (j := 0) (by omega); rw [Nat.add_zero] at c0; have c1 := bo.at_ (j := 1) (by omega); have hsz : w2.heap.size ≤ wo.heap.size := hT.size); refine Goes.mk ?_; go_simp; first | exact goes_v | exact goes_b (by assumption) | exact goes_new hsz | (refine goes_enter ?_; first | (go_at_call 56; ((with_reducible refine (rget32_any (some ⟨b, off, none⟩) n2 c2 p.dat 4 wo bo).mono ?_); rintro e w5 ⟨rfl, hD5⟩); exact ret_v hD5.bel)))) | (apply ObsK.b (by rfl); (intro wo hT; (repeat (first | (intro v hv; (skip)) | (intro _ _ k; try have hcv := cv k))); (have bo := x3.below hT; have c0 := bo.at_ (j := 0) (by omega); rw [Nat.add_zero] at c0; have c1 := bo.at_ (j := 1) (by omega); have hsz : w2.heap.size ≤ wo.heap.size := hT.size); refine Goes.mk ?_; go_simp; first | exact goes_v | exact goes_b (by assumption) | exact goes_new hsz | (refine goes_enter ?_; first | (go_at_call 56; ((with_reducible refine (rget32_any (some ⟨b, off, none⟩) n2 c2 p.dat 4 wo bo).mono ?_); rintro e w5 ⟨rfl, hD5⟩); exact ret_v hD5.bel)))) | (apply ObsK.p (q := isNew w2.heap.size _ _) (by rfl) st_isNew; (intro wo hT; (repeat (first | (intro v hv; (skip)) | (intro _ _ k; try have hcv := cv k))); (have bo := x3.below hT; have c0 := bo.at_ (j := 0) (by omega); rw [Nat.add_zero] at c0; have c1 := bo.at_ (j := 1) (by omega); have hsz : w2.heap.size ≤ wo.heap.size := hT.size); refine Goes.mk ?_; go_simp; first | exact goes_v | exact goes_b (by assumption) | exact goes_new hsz | (refine goes_enter ?_; first | (go_at_call 56; ((with_reducible refine (rget32_any (some ⟨b, off, none⟩) n2 c2 p.dat 4 wo bo).mono ?_); rintro e w5 ⟨rfl, hD5⟩); exact ret_v hD5.bel)))))); refine ObsK.nil ?_; intro wz hBz; simp only [finOn, List.drop_succ_cons, List.drop_zero, List.drop_nil]
  rintro vp ⟨g, rfl, gw, G⟩
  go_simp
  obtain ⟨w4, hw4, S4⟩ := store4 G (.int .u8 (bt p.dat 0)) (.int .u8 (bt p.dat 1)) (.int .u32 (get32 p.dat 4)) (.slice none 0 0)
  have zl2 := Z2.lt
  have k2l : w.heap.size ≤ w2.heap.size := s2
  have gc0 := G.cell
  have G4 := S4.blk
  have T4 := S4.bel (below_then T2 hBz) (by omega)
  have Z4 := S4.other (by omega) (Z2.below hBz)
  have D4 := hbD.below T4
  go_wp2_with fail
  clear hw4 S4 gc0 G hBz
  refine region_txt 4 (by kernel_rfl) (by kernel_rfl) ?_; (iterate 4 (first | (apply ObsK.skip (by rfl)) | (apply ObsK.v (by rfl); (intro wo hT; (repeat (first | (intro _ _ k; try have hcv := cv k))); (have gc := (G4.below hT).cell); refine Goes.mk ?_; go_simp; first | exact goes_v | exact goes_b (by assumption) | (refine goes_enter ?_; first | fail))) | (apply ObsK.b (by rfl); (intro wo hT; (repeat (first | (intro _ _ k; try have hcv := cv k))); (have gc := (G4.below hT).cell); refine Goes.mk ?_; go_simp; first | exact goes_v | exact goes_b (by assumption) | (refine goes_enter ?_; first | fail))))); refine ObsK.nil ?_; intro wz hBz; simp only [finOn, List.drop_succ_cons, List.drop_zero, List.drop_nil]
  go_simp
  have G5 := G4.below hBz
  have Z5 := Z4.below hBz
  have T5 := below_then T4 hBz
  have D5 := D4.below hBz
  have gl := G4.lt
  have gs := hBz.size
  go_wp2_with (first
    | (at_builtin; refine wpList_append_bs (w0 := wz) _ rfl _ _ _ rfl wz.heap.size 5 Try.underlying24 info_u8 none 0 0 [] rfl (own_nil _ _ _) A' n' c' _ rfl D5 (Below.refl _ _) (by omega) (by first | exact Nat.le_refl _ | exact Below.size (Below.refl _ _) | omega | (simp <;> omega)) ?_; intro A7 n7 c7 w7 ho7 hB7 _ hz7; have u7 : n7 = n' := (by have := ho7.len; have := D5.len; simp at *; omega); subst u7; replace ho7 : Own w7 wz.heap.size 5 A7 n7 c7 (p.dat.drop 8) := ho7; have G7 := G5.below hB7; have gc7 := G7.cell; (obtain ⟨w8, hw8, S8⟩ := store1 G7 3 (.slice A7 n7 c7)); simp only [List.setIfInBounds_toArray, List.set_cons_zero, List.set_cons_succ] at S8; have gc8 := S8.blk.cell; have Z8 := S8.other (by omega) (Z5.below hB7); have zc8 := Z8.cell; have T8 := S8.bel (below_then T5 hB7) (by omega); have O8 := S8.own ho7 (fun a e => by have := ho7.ge a e; omega)))
  obtain ⟨wf, hwf, Sf⟩ := store4 Z8 (.int .u8 (bt p.dat 0)) (.int .u8 (bt p.dat 1)) (.int .u32 (get32 p.dat 4)) (.slice A7 n7 c7)
  rw [hwf]
  have pf := Sf.blk.cell
  have Of := Sf.own O8 (fun a e => by have := ho7.ge a e; omega)
  have s5 := T5.size
  refine bodyPost_ret (v := .tuple #[.agg #[.int .u8 (bt p.dat 0), .int .u8 (bt p.dat 1), .int .u32 (get32 p.dat 4), .slice A7 n7 c7], .int .i64 0]) (by simp [results, Try.results31, go_sem, pf]) rfl ⟨A7, n7, c7, rfl, Of.mono s5, Sf.bel T8 (by omega)⟩
theorem icE_12 {p : Pkt} (h : p.proto ≠ 1) : icE p = 12 := by unfold icE; rw [if_pos h]
theorem icE_3 {p : Pkt} (h : p.proto = 1) (h2 : (p.dat.length : Int) < 8) : icE p = 3 := by unfold icE; rw [if_neg (by simp [h]), if_pos h2]
theorem icE_5 {p : Pkt} (h : p.proto = 1) (h2 : 8 ≤ (p.dat.length : Int)) (h3 : csum p.dat ≠ 0) : icE p = 5 := by unfold icE; rw [if_neg (by simp [h]), if_neg (by omega), if_pos h3]
theorem icE_0 {p : Pkt} (h : p.proto = 1) (h2 : 8 ≤ (p.dat.length : Int)) (h3 : csum p.dat = 0) : icE p = 0 := by unfold icE; rw [if_neg (by simp [h]), if_neg (by omega), if_neg (by simp [h3])]
theorem icmp_any (p : Pkt) (A1 : Option Addr) (n1 c1 : Nat) (A2 : Option Addr) (n2 c2 : Nat) (w : World) (k2 : Bs w A2 n2 c2 p.dat) :
    Calls Try.prog 41 #[(.agg #[.int .u8 (p).tos, .int .u16 (p).id, .bool (p).keep, .int .u8 (p).ttl, .int .u8 (p).proto, .int .u32 (p).src, .int .u32 (p).dst, .slice A1 n1 c1, .slice A2 n2 c2])] w (MsPost w (icM p) (icE p)) := by
  have l2 := k2.len
  unfold icM
  by_cases h1 : p.proto = 1
  · by_cases h2 : (n2 : Int) < 8
    · rw [icE_3 h1 (by omega), if_neg (by decide)]
      exact icmp_no p A1 n1 c1 A2 n2 c2 w k2 3 (.inr (.inl ⟨rfl, by simp [h1], h2⟩))
    · by_cases h3 : csum p.dat = 0
      · rw [icE_0 h1 (by omega) h3, if_pos rfl]
        exact icmp_ok p A1 n1 c1 A2 n2 c2 w k2 (by simp [h1]) (by omega) (by simp [h3])
      · rw [icE_5 h1 (by omega) h3, if_neg (by decide)]
        exact icmp_no p A1 n1 c1 A2 n2 c2 w k2 5 (.inr (.inr ⟨rfl, by simp [h1], by omega, by simpa using h3⟩))
  · rw [icE_12 h1, if_neg (by decide)]
    exact icmp_no p A1 n1 c1 A2 n2 c2 w k2 12 (.inl ⟨rfl, by simpa using h1⟩)
theorem ricmp_any (p : Pkt) (A1 : Option Addr) (n1 c1 : Nat) (A2 : Option Addr) (n2 c2 : Nat) (w : World) (k2 : Bs w A2 n2 c2 p.dat) (hn2 : n2 ≤ 17592186044416) :
    Calls Try.prog 31 #[(.agg #[.int .u8 (p).tos, .int .u16 (p).id, .bool (p).keep, .int .u8 (p).ttl, .int .u8 (p).proto, .int .u32 (p).src, .int .u32 (p).dst, .slice A1 n1 c1, .slice A2 n2 c2])] w (MsPost w (icM p) (icE p)) := by
  have l2 := k2.len
  unfold icM
  by_cases h1 : p.proto = 1
  · by_cases h2 : (n2 : Int) < 8
    · rw [icE_3 h1 (by omega), if_neg (by decide)]
      exact ricmp_no p A1 n1 c1 A2 n2 c2 w k2 hn2 3 (.inr (.inl ⟨rfl, by simp [h1], h2⟩))
    · by_cases h3 : csum p.dat = 0
      · rw [icE_0 h1 (by omega) h3, if_pos rfl]
        exact ricmp_ok p A1 n1 c1 A2 n2 c2 w k2 hn2 (by simp [h1]) (by omega) (by simp [h3])
      · rw [icE_5 h1 (by omega) h3, if_neg (by decide)]
        exact ricmp_no p A1 n1 c1 A2 n2 c2 w k2 hn2 5 (.inr (.inr ⟨rfl, by simp [h1], by omega, by simpa using h3⟩))
  · rw [icE_12 h1, if_neg (by decide)]
    exact ricmp_no p A1 n1 c1 A2 n2 c2 w k2 hn2 12 (.inl ⟨rfl, by simpa using h1⟩)
end Go.Proofs.Ythgoffbfgdgkpaa

/- Frames: whether two are the same; their beginning. -/
namespace Go.Proofs.Ythgoffbfgdgkpaa
open Go.RowKit
set_option linter.unusedVariables false
set_option linter.unusedSimpArgs false
set_option maxHeartbeats 4000000
set_option maxRecDepth 100000

structure Frm where
  call : Int
  hs : Bool
  ha : Bool
  seq : Int
  ack : Int
  dat : List UInt8
structure Frm.Ok (f : Frm) : Prop where
  call : 0 ≤ f.call ∧ f.call ≤ 65535
  seq : 0 ≤ f.seq ∧ f.seq ≤ 4294967295
  ack : 0 ≤ f.ack ∧ f.ack ≤ 4294967295
def zF : Frm := ⟨0, false, false, 0, 0, []⟩
theorem zF_ok : zF.Ok := ⟨by decide, by decide, by decide⟩
def sameF (f g : Frm) : Bool := f.call == g.call && f.hs == g.hs && f.ha == g.ha && f.seq == g.seq && f.ack == g.ack && f.dat == g.dat
theorem sameF_self (f : Frm) : sameF f f = true := by simp [sameF]
theorem sameF_iff (f g : Frm) : sameF f g = true ↔ f = g := by
  unfold sameF
  cases f; cases g
  simp only [Bool.and_eq_true, beq_iff_eq, Frm.mk.injEq]
  constructor
  · rintro ⟨⟨⟨⟨⟨a, b⟩, c⟩, d⟩, e⟩, f⟩; exact ⟨a, b, c, d, e, f⟩
  · rintro ⟨a, b, c, d, e, f⟩; exact ⟨⟨⟨⟨⟨a, b⟩, c⟩, d⟩, e⟩, f⟩
/-- A frame's first two bytes. -/
def b0F (s : Bool) : Int := if s then 48 else 32
def b1F (a : Bool) : Int := if a then 129 else 1
def grB (s a : Bool) : List UInt8 := [ub (b0F s), ub (b1F a), ub 136, ub 11]
theorem begin_any (s a : Bool) (w : World) :
    Calls Try.prog 82 #[.bool s, .bool a] w fun e w' => e = .returned (.agg #[.int .u8 (b0F s), .int .u8 (b1F a), .int .u8 136, .int .u8 11]) ∧ Below w.heap.size w w' := by
  have h1 : bits .or .u8 32 16 = 48 := by decide
  have h2 : bits .or .u8 1 128 = 129 := by decide
  cases s <;> cases a
  all_goals go_enter Try.func82, Try.ntmps82
  all_goals go_wp2_with fail
  all_goals first
    | exact bodyPost_ret (v := .agg #[.int .u8 32, .int .u8 1, .int .u8 136, .int .u8 11]) (by simp [results, Try.results82, go_sem]) rfl ⟨rfl, by (repeat (first | with_reducible exact Below.refl _ _ | with_reducible refine below_drew ?_ | with_reducible refine below_drewN ?_ _ | with_reducible refine below_alloc ?_ (Nat.le_refl _) _ | with_reducible refine Below.setCell ?_ (by first | exact Nat.le_refl _ | (simp only []; omega)) _ | with_reducible assumption))⟩
    | exact bodyPost_ret (v := .agg #[.int .u8 48, .int .u8 1, .int .u8 136, .int .u8 11]) (by simp [results, Try.results82, go_sem]) rfl ⟨rfl, by (repeat (first | with_reducible exact Below.refl _ _ | with_reducible refine below_drew ?_ | with_reducible refine below_drewN ?_ _ | with_reducible refine below_alloc ?_ (Nat.le_refl _) _ | with_reducible refine Below.setCell ?_ (by first | exact Nat.le_refl _ | (simp only []; omega)) _ | with_reducible assumption))⟩
    | exact bodyPost_ret (v := .agg #[.int .u8 32, .int .u8 129, .int .u8 136, .int .u8 11]) (by simp [results, Try.results82, go_sem]) rfl ⟨rfl, by (repeat (first | with_reducible exact Below.refl _ _ | with_reducible refine below_drew ?_ | with_reducible refine below_drewN ?_ _ | with_reducible refine below_alloc ?_ (Nat.le_refl _) _ | with_reducible refine Below.setCell ?_ (by first | exact Nat.le_refl _ | (simp only []; omega)) _ | with_reducible assumption))⟩
    | exact bodyPost_ret (v := .agg #[.int .u8 48, .int .u8 129, .int .u8 136, .int .u8 11]) (by simp [results, Try.results82, go_sem]) rfl ⟨rfl, by (repeat (first | with_reducible exact Below.refl _ _ | with_reducible refine below_drew ?_ | with_reducible refine below_drewN ?_ _ | with_reducible refine below_alloc ?_ (Nat.le_refl _) _ | with_reducible refine Below.setCell ?_ (by first | exact Nat.le_refl _ | (simp only []; omega)) _ | with_reducible assumption))⟩
end Go.Proofs.Ythgoffbfgdgkpaa

/- The packet with a message. -/
namespace Go.Proofs.Ythgoffbfgdgkpaa
open Go.RowKit
set_option linter.unusedVariables false
set_option linter.unusedSimpArgs false
set_option linter.unusedSimpArgs false
set_option maxHeartbeats 4000000
set_option maxRecDepth 100000

/-- A message's bytes with the sum 0; with theirs. -/
def mL (m : Msg) : List UInt8 := [ub m.ty, ub m.code, 0, 0] ++ four m.rest ++ m.dat
def mS (m : Msg) : List UInt8 := put16 (mL m) 2 (csum (mL m))
theorem mL_len (m : Msg) : (mL m).length = 8 + m.dat.length := by unfold mL four; simp; omega
theorem mS_len (m : Msg) : (mS m).length = 8 + m.dat.length := by unfold mS; rw [put16_length, mL_len]
theorem head8 (m : Msg) : put32 [ub m.ty, ub m.code, 0, 0, 0, 0, 0, 0] 4 m.rest = [ub m.ty, ub m.code, 0, 0] ++ four m.rest := by
  simp [put32, putK, four]
theorem lit8 {e : TypeId} {x y : Int} (x0 : 0 ≤ x) (x1 : x ≤ 255) (y0 : 0 ≤ y) (y1 : y ≤ 255) (W : World) : Own (W.alloc (.cells #[.int .u8 x, .int .u8 y, .int .u8 0, .int .u8 0, .int .u8 0, .int .u8 0, .int .u8 0, .int .u8 0] e)) W.heap.size e (some ⟨W.heap.size, 0, none⟩) 8 8 [ub x, ub y, 0, 0, 0, 0, 0, 0] := by
  have h : (cu [ub x, ub y, 0, 0, 0, 0, 0, 0]).toArray = #[.int .u8 x, .int .u8 y, .int .u8 0, .int .u8 0, .int .u8 0, .int .u8 0, .int .u8 0, .int .u8 0] := by
    simp [cu, ub_val]; omega
  rw [← h]; exact own_lit W _ e _ 8 rfl (by omega) (Nat.le_refl _)
theorem isCat2 {W0 : World} {g n1 c1 n2 c2 cc : Nat} {A1 A2 : Option Addr} {l1 l2 : List UInt8} {T : TypeId} (G : Blk W0 g #[.slice A1 n1 c1, .slice A2 n2 c2] T) (k1 : Bs W0 A1 n1 c1 l1) (k2 : Bs W0 A2 n2 c2 l2) (h : n1 + n2 ≤ 200000000000000) :
    isCat (.slice (some ⟨g, 0, none⟩) 2 cc) (l1 ++ l2) W0 := by
  intro W hB
  have G' := G.below hB
  have gc := G'.cell.1
  have := concat_any g 2 cc (fun j => if j = 0 then A1 else A2) (fun j => if j = 0 then n1 else n2) (fun j => if j = 0 then c1 else c2) (fun j => if j = 0 then l1 else l2) (by omega) W G'.lt (fun j hj => by
      rw [gc]
      have : j = 0 ∨ j = 1 := by omega
      rcases this with rfl | rfl <;> rfl) (fun j hj => by
      have : j = 0 ∨ j = 1 := by omega
      rcases this with rfl | rfl
      · exact k1.below hB
      · exact k2.below hB) (by simp [catN]; omega)
  exact this
end Go.Proofs.Ythgoffbfgdgkpaa

/- The packet with a frame. -/
namespace Go.Proofs.Ythgoffbfgdgkpaa
open Go.RowKit
set_option linter.unusedVariables false
set_option linter.unusedSimpArgs false
set_option maxHeartbeats 4000000
set_option maxRecDepth 100000

/-- A frame's header. -/
def gH (f : Frm) : List UInt8 := grB f.hs f.ha ++ two ((f.dat.length : Int) % 65536) ++ two f.call ++ (if f.hs then four f.seq else []) ++ (if f.ha then four f.ack else [])
def gL (f : Frm) : List UInt8 := gH f ++ f.dat
def gN (f : Frm) : Nat := 8 + (if f.hs then 4 else 0) + (if f.ha then 4 else 0) + f.dat.length
theorem gL_len (f : Frm) : (gL f).length = gN f := by
  unfold gL gH gN grB two four
  cases f.hs <;> cases f.ha <;> simp <;> omega
/-- Must it be refused for its own numbers? -/
def gBad (f : Frm) : Bool := (!f.hs && f.seq != 0) || (!f.ha && f.ack != 0)
def bgE (p : Pkt) (f : Frm) : Int := if gBad f then 4 else wiE p (gN f)
def bgP (p : Pkt) (f : Frm) : Pkt := if gBad f then zP else withP p 47 (gL f)
/-- The array of the first four bytes, with four of 0 behind it. -/
theorem app_first (w : World) (g : Nat) (a b : Int) (a0 : 0 ≤ a) (a1 : a ≤ 255) (b0 : 0 ≤ b) (b1 : b ≤ 255) (G : Blk w g #[.int .u8 a, .int .u8 b, .int .u8 136, .int .u8 11] 120) :
    ∃ A c w', (Builtin.append_ #[24, 3] 24 #[.slice (some ⟨g, 0, none⟩) 4 4, .int .i64 4]).run Try.prog w = .ok (.slice A 8 c) w' ∧ Own w' w.heap.size 5 A 8 c ([ub a, ub b, ub 136, ub 11] ++ [0, 0, 0, 0]) ∧ Below w.heap.size w w' := by
  obtain ⟨i8, hi8, hz8, hs8, hb8⟩ := info_parts info_u8
  have gc := G.cell.1
  have hold : (Builtin.firstCells i8.size 4 (.slice (some ⟨g, 0, none⟩) 4 4)).run Try.prog w.drew = .ok [Value.int .u8 a, .int .u8 b, .int .u8 136, .int .u8 11].toArray w.drew := by
    refine run_firstCells_some (P := Try.prog) w.drew i8.size 4 ⟨g, 0, none⟩ 4 4 [.int .u8 a, .int .u8 b, .int .u8 136, .int .u8 11] (by rw [hs8]; rfl) fun j u hj => ?_
    have hc : w.drew.cell? ((⟨g, 0, none⟩ : Addr).add j) = w.cell? ⟨g, j, none⟩ := by
      have : (⟨g, 0, none⟩ : Addr).add j = ⟨g, j, none⟩ := by unfold Addr.add; split <;> simp_all
      rw [this]; rfl
    rw [hc, gc]
    simpa using hj
  have hr := Lib.run_append_grow_zeros (P := Try.prog) w 24 3 24 5 i8 (.int .u8 0) .i64 .i64 Try.underlying24 Try.underlying3 hi8 hz8 (some ⟨g, 0, none⟩) 4 4 _ hold 4 (by omega) (by omega) (by omega) (by omega) (by omega) (growslice_fits_wide (by omega) (by rw [hb8]; omega))
  have hge : 8 ≤ grownCap w 8 4 5 := grownCap_ge w 8 4 5
  have hcu : ([Value.int .u8 a, .int .u8 b, .int .u8 136, .int .u8 11] ++ [.int .u8 0, .int .u8 0, .int .u8 0, .int .u8 0]) = cu ([ub a, ub b, ub 136, ub 11] ++ [0, 0, 0, 0]) := by
    simp [cu, ub_val]; omega
  refine ⟨_, _, _, hr, ⟨rfl, by omega, ⟨by rw [cu_length]; rfl, .inr ⟨w.heap.size, _, _, rfl, Nat.le_refl _, heap_alloc_new w.drew _, hge, grownCap_le_maxLen w (4 + 4) 4 5 (by simp only [maxLen]; omega), ?_, ?_⟩⟩⟩, (Below.drew (Below.refl _ w)).alloc (Nat.le_refl _) _⟩
  · simp [Array.size_append, size_zeroCells, Value.cells]; omega
  · rw [← hcu]
    have hz4 : Builtin.zeroCells (Value.int .u8 0).cells 4 = #[.int .u8 0, .int .u8 0, .int .u8 0, .int .u8 0] := by
      apply Array.ext'
      simp [Builtin.zeroCells, Value.cells, Nat.mod_one, Array.toList_range, List.range_succ]
    simp only [hz4, Array.toList_append, List.append_assoc]
    rfl
theorem b0F_bd (s : Bool) : 0 ≤ b0F s ∧ b0F s ≤ 255 := by cases s <;> decide
theorem b1F_bd (s : Bool) : 0 ≤ b1F s ∧ b1F s ≤ 255 := by cases s <;> decide
theorem bg_bad' (p : Pkt) (A1 : Option Addr) (n1 c1 : Nat) (A2 : Option Addr) (n2 c2 : Nat) (call : Int) (hs ha : Bool) (seq ack : Int) (dat : List UInt8) (B1 : Option Addr) (m1 d1 : Nat) (w : World) (k1 : Bs w A1 n1 c1 p.opt) (j1 : Bs w B1 m1 d1 dat)
    (h : (hs = false ∧ (seq != 0) = true) ∨ ((hs = true ∨ (seq != 0) = false) ∧ ha = false ∧ (ack != 0) = true)) :
    Calls Try.prog 74 #[(.agg #[.int .u8 (p).tos, .int .u16 (p).id, .bool (p).keep, .int .u8 (p).ttl, .int .u8 (p).proto, .int .u32 (p).src, .int .u32 (p).dst, .slice A1 n1 c1, .slice A2 n2 c2]), .agg #[.int .u16 call, .bool hs, .bool ha, .int .u32 seq, .int .u32 ack, .slice B1 m1 d1]] w (WiPost w zP 4) := by
  obtain ⟨k, hk⟩ : ∃ k : Nat, w.heap.size = k := ⟨_, rfl⟩
  obtain ⟨w1, hw1⟩ : ∃ w1, ((w.alloc (.cells #[.int .u8 (p).tos, .int .u16 (p).id, .bool (p).keep, .int .u8 (p).ttl, .int .u8 (p).proto, .int .u32 (p).src, .int .u32 (p).dst, .slice A1 n1 c1, .slice A2 n2 c2] 26)).alloc (.cells #[.int .u16 call, .bool hs, .bool ha, .int .u32 seq, .int .u32 ack, .slice B1 m1 d1] 52)).alloc (.cells #[.int .u8 0, .int .u16 0, .bool false, .int .u8 0, .int .u8 0, .int .u32 0, .int .u32 0, .slice none 0 0, .slice none 0 0] 26) = w1 := ⟨_, rfl⟩
  have P1 : Blk w1 k #[.int .u8 (p).tos, .int .u16 (p).id, .bool (p).keep, .int .u8 (p).ttl, .int .u8 (p).proto, .int .u32 (p).src, .int .u32 (p).dst, .slice A1 n1 c1, .slice A2 n2 c2] 26 := by rw [← hw1]; exact ((blk_new w _ _ k hk).alloc _).alloc _
  have F1 : Blk w1 (k + 1) #[.int .u16 call, .bool hs, .bool ha, .int .u32 seq, .int .u32 ack, .slice B1 m1 d1] 52 := by rw [← hw1]; exact (blk_new _ _ _ (k + 1) (by simp [hk])).alloc _
  have Z1 : Blk w1 (k + 1 + 1) #[.int .u8 0, .int .u16 0, .bool false, .int .u8 0, .int .u8 0, .int .u32 0, .int .u32 0, .slice none 0 0, .slice none 0 0] 26 := by rw [← hw1]; exact blk_new _ _ _ (k + 1 + 1) (by simp [hk])
  have R1 : Below w.heap.size w w1 := by rw [← hw1]; (repeat (first | with_reducible exact Below.refl _ _ | with_reducible refine below_drew ?_ | with_reducible refine below_drewN ?_ _ | with_reducible refine below_alloc ?_ (Nat.le_refl _) _ | with_reducible refine Below.setCell ?_ (by first | exact Nat.le_refl _ | (simp only []; omega)) _ | with_reducible assumption))
  have x1 := k1.below R1
  have y1 := j1.below R1
  have pc := P1.cell
  have mc := F1.cell
  have zc := Z1.cell
  have kl1 := P1.lt
  have ml1 := F1.lt
  obtain ⟨wf, hwf, Sf⟩ := store9 Z1 (.int .u8 0) (.int .u16 0) (.bool false) (.int .u8 0) (.int .u8 0) (.int .u32 0) (.int .u32 0) (.slice none 0 0) (.slice none 0 0)
  have pf := Sf.blk.cell
  have Tf := Sf.bel R1 (by omega)
  have h0 : hs = false ∨ hs = true := by cases hs <;> simp
  rcases h with ⟨h1, h2⟩ | ⟨h1 | h1, h2, h3⟩
  · subst h1
    go_enter Try.func74, Try.ntmps74
    go_wp2_with fail
    exact bodyPost_ret (by simp [results, Try.results74, go_sem, pf]) rfl (wiPost_no Tf)
  · subst h1 h2
    go_enter Try.func74, Try.ntmps74
    go_wp2_with fail
    exact bodyPost_ret (by simp [results, Try.results74, go_sem, pf]) rfl (wiPost_no Tf)
  · subst h2
    rcases h0 with h0 | h0
    all_goals subst h0
    all_goals go_enter Try.func74, Try.ntmps74
    all_goals go_wp2_with fail
    all_goals exact bodyPost_ret (by simp [results, Try.results74, go_sem, pf]) rfl (wiPost_no Tf)
theorem gBad_iff {f : Frm} (h : gBad f = true) : (f.hs = false ∧ (f.seq != 0) = true) ∨ ((f.hs = true ∨ (f.seq != 0) = false) ∧ f.ha = false ∧ (f.ack != 0) = true) := by
  unfold gBad at h
  revert h
  cases f.hs <;> cases f.ha <;> cases (f.seq != 0) <;> cases (f.ack != 0) <;> simp
theorem bg_bad (p : Pkt) (A1 : Option Addr) (n1 c1 : Nat) (A2 : Option Addr) (n2 c2 : Nat) (f : Frm) (B1 : Option Addr) (m1 d1 : Nat) (w : World) (k1 : Bs w A1 n1 c1 p.opt) (j1 : Bs w B1 m1 d1 f.dat) (h : gBad f = true) :
    Calls Try.prog 74 #[(.agg #[.int .u8 (p).tos, .int .u16 (p).id, .bool (p).keep, .int .u8 (p).ttl, .int .u8 (p).proto, .int .u32 (p).src, .int .u32 (p).dst, .slice A1 n1 c1, .slice A2 n2 c2]), (.agg #[.int .u16 (f).call, .bool (f).hs, .bool (f).ha, .int .u32 (f).seq, .int .u32 (f).ack, .slice B1 m1 d1])] w (WiPost w zP 4) :=
  bg_bad' p A1 n1 c1 A2 n2 c2 f.call f.hs f.ha f.seq f.ack f.dat B1 m1 d1 w k1 j1 (gBad_iff h)
end Go.Proofs.Ythgoffbfgdgkpaa

/- The packet with a frame: where the frame's numbers are right. -/
namespace Go.Proofs.Ythgoffbfgdgkpaa
open Go.RowKit
set_option linter.unusedVariables false
set_option linter.unusedSimpArgs false
set_option linter.unusedSimpArgs false
set_option maxHeartbeats 4000000
set_option maxRecDepth 100000

theorem bg_ok00 (p : Pkt) (A1 : Option Addr) (n1 c1 : Nat) (A2 : Option Addr) (n2 c2 : Nat) (call : Int) (hca : 0 ≤ call ∧ call ≤ 65535) (seq ack : Int) (hse : 0 ≤ seq ∧ seq ≤ 4294967295) (hak : 0 ≤ ack ∧ ack ≤ 4294967295) (hsq : (seq != 0) = false) (hac : (ack != 0) = false) (dat : List UInt8) (B1 : Option Addr) (m1 d1 : Nat) (w : World) (k1 : Bs w A1 n1 c1 p.opt) (j1 : Bs w B1 m1 d1 dat)
    (Q : Pkt) (E : Int) (hw2 : ∀ W lv, isCat lv ((grB false false ++ two ((m1 : Int) % 65536) ++ two call) ++ dat) W → Bs W A1 n1 c1 p.opt → Calls Try.prog 86 #[(.agg #[.int .u8 (p).tos, .int .u16 (p).id, .bool (p).keep, .int .u8 (p).ttl, .int .u8 (p).proto, .int .u32 (p).src, .int .u32 (p).dst, .slice A1 n1 c1, .slice A2 n2 c2]), .int .u8 47, lv] W (WiPost W Q E)) (hm1 : m1 ≤ 140737488400000) :
    Calls Try.prog 74 #[(.agg #[.int .u8 (p).tos, .int .u16 (p).id, .bool (p).keep, .int .u8 (p).ttl, .int .u8 (p).proto, .int .u32 (p).src, .int .u32 (p).dst, .slice A1 n1 c1, .slice A2 n2 c2]), .agg #[.int .u16 call, .bool false, .bool false, .int .u32 seq, .int .u32 ack, .slice B1 m1 d1]] w (WiPost w Q E) := by
  have b1 := j1.max
  obtain ⟨ca0, ca1⟩ := hca
  obtain ⟨se0, se1⟩ := hse
  obtain ⟨ak0, ak1⟩ := hak
  obtain ⟨z, hz⟩ : ∃ z : Int, (m1 : Int) % 65536 = z := ⟨_, rfl⟩
  have z0 : 0 ≤ z := by omega
  have z1 : z ≤ 65535 := by omega
  have hzw : IntKind.u16.wrap (m1 : Int) = z := by rw [← hz]; simp [IntKind.wrap, IntKind.signed, IntKind.bits]
  rw [hz] at hw2
  have H1 : Hid (put16 ([ub (b0F false), ub (b1F false), ub 136, ub 11] ++ [0, 0, 0, 0]) 4 z = grB false false ++ two z ++ [0, 0]) := by unfold Hid; simp [put16, putK, two, grB]
  have H2 : Hid (put16 (grB false false ++ two z ++ [0, 0]) 6 call = grB false false ++ two z ++ two call) := by unfold Hid; simp [put16, putK, two, grB]
  have hl4 : (cu [0, 0, 0, 0]).toArray = #[.int .u8 0, .int .u8 0, .int .u8 0, .int .u8 0] := rfl
  obtain ⟨k, hk⟩ : ∃ k : Nat, w.heap.size = k := ⟨_, rfl⟩
  obtain ⟨w1, hw1⟩ : ∃ w1, ((w.alloc (.cells #[.int .u8 (p).tos, .int .u16 (p).id, .bool (p).keep, .int .u8 (p).ttl, .int .u8 (p).proto, .int .u32 (p).src, .int .u32 (p).dst, .slice A1 n1 c1, .slice A2 n2 c2] 26)).alloc (.cells #[.int .u16 call, .bool false, .bool false, .int .u32 seq, .int .u32 ack, .slice B1 m1 d1] 52)).alloc (.cells #[.int .u8 0, .int .u16 0, .bool false, .int .u8 0, .int .u8 0, .int .u32 0, .int .u32 0, .slice none 0 0, .slice none 0 0] 26) = w1 := ⟨_, rfl⟩
  have P1 : Blk w1 k #[.int .u8 (p).tos, .int .u16 (p).id, .bool (p).keep, .int .u8 (p).ttl, .int .u8 (p).proto, .int .u32 (p).src, .int .u32 (p).dst, .slice A1 n1 c1, .slice A2 n2 c2] 26 := by rw [← hw1]; exact ((blk_new w _ _ k hk).alloc _).alloc _
  have F1 : Blk w1 (k + 1) #[.int .u16 call, .bool false, .bool false, .int .u32 seq, .int .u32 ack, .slice B1 m1 d1] 52 := by rw [← hw1]; exact (blk_new _ _ _ (k + 1) (by simp [hk])).alloc _
  have Z1 : Blk w1 (k + 1 + 1) #[.int .u8 0, .int .u16 0, .bool false, .int .u8 0, .int .u8 0, .int .u32 0, .int .u32 0, .slice none 0 0, .slice none 0 0] 26 := by rw [← hw1]; exact blk_new _ _ _ (k + 1 + 1) (by simp [hk])
  have R1 : Below w.heap.size w w1 := by rw [← hw1]; (repeat (first | with_reducible exact Below.refl _ _ | with_reducible refine below_drew ?_ | with_reducible refine below_drewN ?_ _ | with_reducible refine below_alloc ?_ (Nat.le_refl _) _ | with_reducible refine Below.setCell ?_ (by first | exact Nat.le_refl _ | (simp only []; omega)) _ | with_reducible assumption))
  have x1 := k1.below R1
  have y1 := j1.below R1
  have mc := F1.cell
  have zl1 := Z1.lt
  go_enter Try.func74, Try.ntmps74
  go_wp2_with (first
    | (go_at_call 82; ((with_reducible refine (begin_any false false _).mono ?_); rintro e w2 ⟨rfl, hB2⟩); (obtain ⟨w3, hw3⟩ : ∃ w3, w2.alloc (.cells #[.int .u8 (b0F false), .int .u8 (b1F false), .int .u8 136, .int .u8 11] 120) = w3 := ⟨_, rfl⟩); have G3 : Blk w3 w2.heap.size #[.int .u8 (b0F false), .int .u8 (b1F false), .int .u8 136, .int .u8 11] 120 := (by rw [← hw3]; exact blk_new w2 _ _ _ rfl); have V3 : Below w2.heap.size w2 w3 := (by rw [← hw3]; (repeat (first | with_reducible exact Below.refl _ _ | with_reducible refine below_drew ?_ | with_reducible refine below_drewN ?_ _ | with_reducible refine below_alloc ?_ (Nat.le_refl _) _ | with_reducible refine Below.setCell ?_ (by first | exact Nat.le_refl _ | (simp only []; omega)) _ | with_reducible assumption))); (obtain ⟨A4, c4, w4, hrun, O4, hB4⟩ := app_first w3 w2.heap.size (b0F false) (b1F false) (b0F_bd _).1 (b0F_bd _).2 (b1F_bd _).1 (b1F_bd _).2 G3))
    | (at_builtin; refine Lib.wpList_append_run _ rfl _ _ _ _ rfl _ _ rfl rfl _ _ hrun ?_))
  have T3 := below_then hB2 V3
  have T4 := below_then T3 hB4
  have F4 := F1.below T4
  have o4 := O4.bs
  have s3 := T3.size
  have s4 := hB4.size
  have hc4 : 8 ≤ c4 := o4.cap
  refine region_txt 9 (by kernel_rfl) (by kernel_rfl) ?_; (iterate 9 (first | (apply ObsK.skip (by rfl)) | (apply ObsK.v (by rfl); (intro wo hT; (repeat (first | (intro v hv; ((obtain ⟨A5, n5, c5, rfl, o5⟩ := hv; have u5 : n5 = 8 := (by rw [← o5.len]; rfl); subst u5; have ob5 := o5.bs))) | (intro _ _ k; try have hcv := cv k))); (have mc := (F4.below hT).cell; have bo := o4.below hT; have hsz : w4.heap.size ≤ wo.heap.size := hT.size); refine Goes.mk ?_; go_simp; first | exact goes_v | exact goes_b (by assumption) | (refine goes_enter ?_; first | (go_at_call 84; ((with_reducible refine (put16_any A4 8 c4 _ 4 z z0 z1 wo bo).mono ?_); rintro e w9 ⟨A9, c9, rfl, ho9, hB9⟩); rw [H1.out] at ho9; exact ret_p (own_isW ho9 hsz) hB9) | (go_at_call 84; ((with_reducible refine (put16_any A5 8 c5 _ 6 call ca0 ca1 wo ob5).mono ?_); rintro e w9 ⟨A9, c9, rfl, ho9, hB9⟩); rw [H2.out] at ho9; exact ret_p (own_isW ho9 hsz) hB9)))) | (apply ObsK.b (by rfl); (intro wo hT; (repeat (first | (intro v hv; ((obtain ⟨A5, n5, c5, rfl, o5⟩ := hv; have u5 : n5 = 8 := (by rw [← o5.len]; rfl); subst u5; have ob5 := o5.bs))) | (intro _ _ k; try have hcv := cv k))); (have mc := (F4.below hT).cell; have bo := o4.below hT; have hsz : w4.heap.size ≤ wo.heap.size := hT.size); refine Goes.mk ?_; go_simp; first | exact goes_v | exact goes_b (by assumption) | (refine goes_enter ?_; first | (go_at_call 84; ((with_reducible refine (put16_any A4 8 c4 _ 4 z z0 z1 wo bo).mono ?_); rintro e w9 ⟨A9, c9, rfl, ho9, hB9⟩); rw [H1.out] at ho9; exact ret_p (own_isW ho9 hsz) hB9) | (go_at_call 84; ((with_reducible refine (put16_any A5 8 c5 _ 6 call ca0 ca1 wo ob5).mono ?_); rintro e w9 ⟨A9, c9, rfl, ho9, hB9⟩); rw [H2.out] at ho9; exact ret_p (own_isW ho9 hsz) hB9)))) | (apply ObsK.p (q := isW w4.heap.size _) (by rfl) st_isW; (intro wo hT; (repeat (first | (intro v hv; ((obtain ⟨A5, n5, c5, rfl, o5⟩ := hv; have u5 : n5 = 8 := (by rw [← o5.len]; rfl); subst u5; have ob5 := o5.bs))) | (intro _ _ k; try have hcv := cv k))); (have mc := (F4.below hT).cell; have bo := o4.below hT; have hsz : w4.heap.size ≤ wo.heap.size := hT.size); refine Goes.mk ?_; go_simp; first | exact goes_v | exact goes_b (by assumption) | (refine goes_enter ?_; first | (go_at_call 84; ((with_reducible refine (put16_any A4 8 c4 _ 4 z z0 z1 wo bo).mono ?_); rintro e w9 ⟨A9, c9, rfl, ho9, hB9⟩); rw [H1.out] at ho9; exact ret_p (own_isW ho9 hsz) hB9) | (go_at_call 84; ((with_reducible refine (put16_any A5 8 c5 _ 6 call ca0 ca1 wo ob5).mono ?_); rintro e w9 ⟨A9, c9, rfl, ho9, hB9⟩); rw [H2.out] at ho9; exact ret_p (own_isW ho9 hsz) hB9)))))); refine ObsK.nil ?_; intro wz hBz; simp only [finOn, List.drop_succ_cons, List.drop_zero, List.drop_nil]
  rintro v6 ⟨A6, n6, c6, rfl, O6⟩ v7 hv7
  clear hv7
  have u6 : n6 = 8 := by rw [← O6.len]; rfl
  subst u6
  go_simp
  have T6 := below_then T4 hBz
  have P6 := P1.below T6
  have F6 := F1.below T6
  have Z6 := Z1.below T6
  have x6 := x1.below T6
  have y6 := y1.below T6
  have mc6 := F6.cell
  have sz6 := hBz.size
  generalize wz = w6 at *
  clear hBz o4 O4 hrun hB4 G3 hw3 V3 T3 F4 hw1 mc T4
  obtain ⟨w9, hw9⟩ : ∃ w9, w6.alloc (.cells #[.slice A6 8 c6, .slice B1 m1 d1] 24) = w9 := ⟨_, rfl⟩
  have G9 : Blk w9 w6.heap.size #[.slice A6 8 c6, .slice B1 m1 d1] 24 := by rw [← hw9]; exact blk_new w6 _ _ _ rfl
  have V9 : Below w6.heap.size w6 w9 := by rw [← hw9]; (repeat (first | with_reducible exact Below.refl _ _ | with_reducible refine below_drew ?_ | with_reducible refine below_drewN ?_ _ | with_reducible refine below_alloc ?_ (Nat.le_refl _) _ | with_reducible refine Below.setCell ?_ (by first | exact Nat.le_refl _ | (simp only []; omega)) _ | with_reducible assumption))
  have o6 := O6.bs
  have hcat := isCat2 G9 (o6.below V9) (y6.below V9) (cc := 2) (by omega)
  have T9 := below_then T6 V9
  have pc6 := P6.cell
  have s9 := (below_then R1 T9).size
  have kz : k + 1 + 1 < w9.heap.size := (Z6.below V9).lt
  go_wp2_with (go_at_call 86; ((with_reducible refine (hw2 w9 _ hcat (x6.below V9)).mono ?_); rintro e w10 ⟨⟨C1, e1, f1, C2, e2, f2, rfl, O1, O2, hB10⟩⟩); have T10 := below_then T9 hB10; have Z10 := Z1.below T10; have zc10 := Z10.cell)
  obtain ⟨wf, hwf, Sf⟩ := store9 Z10 (.int .u8 Q.tos) (.int .u16 Q.id) (.bool Q.keep) (.int .u8 Q.ttl) (.int .u8 Q.proto) (.int .u32 Q.src) (.int .u32 Q.dst) (.slice C1 e1 f1) (.slice C2 e2 f2)
  rw [hwf]
  have pf := Sf.blk.cell
  have Of := Sf.own O1 (fun a e => by have := O1.ge a e; omega)
  have Df := Sf.own O2 (fun a e => by have := O2.ge a e; omega)
  refine bodyPost_ret (v := .tuple #[(.agg #[.int .u8 (Q).tos, .int .u16 (Q).id, .bool (Q).keep, .int .u8 (Q).ttl, .int .u8 (Q).proto, .int .u32 (Q).src, .int .u32 (Q).dst, .slice C1 e1 f1, .slice C2 e2 f2]), .int .i64 E]) (by simp [results, Try.results74, go_sem, pf]) rfl ⟨⟨C1, e1, f1, C2, e2, f2, rfl, Of.mono s9, Df.mono s9, Sf.bel (below_then R1 T10) (by omega)⟩⟩
theorem bg_ok01 (p : Pkt) (A1 : Option Addr) (n1 c1 : Nat) (A2 : Option Addr) (n2 c2 : Nat) (call : Int) (hca : 0 ≤ call ∧ call ≤ 65535) (seq ack : Int) (hse : 0 ≤ seq ∧ seq ≤ 4294967295) (hak : 0 ≤ ack ∧ ack ≤ 4294967295) (hsq : (seq != 0) = false) (dat : List UInt8) (B1 : Option Addr) (m1 d1 : Nat) (w : World) (k1 : Bs w A1 n1 c1 p.opt) (j1 : Bs w B1 m1 d1 dat)
    (Q : Pkt) (E : Int) (hw2 : ∀ W lv, isCat lv (((grB false true ++ two ((m1 : Int) % 65536) ++ two call) ++ four ack) ++ dat) W → Bs W A1 n1 c1 p.opt → Calls Try.prog 86 #[(.agg #[.int .u8 (p).tos, .int .u16 (p).id, .bool (p).keep, .int .u8 (p).ttl, .int .u8 (p).proto, .int .u32 (p).src, .int .u32 (p).dst, .slice A1 n1 c1, .slice A2 n2 c2]), .int .u8 47, lv] W (WiPost W Q E)) (hm1 : m1 ≤ 140737488400000) :
    Calls Try.prog 74 #[(.agg #[.int .u8 (p).tos, .int .u16 (p).id, .bool (p).keep, .int .u8 (p).ttl, .int .u8 (p).proto, .int .u32 (p).src, .int .u32 (p).dst, .slice A1 n1 c1, .slice A2 n2 c2]), .agg #[.int .u16 call, .bool false, .bool true, .int .u32 seq, .int .u32 ack, .slice B1 m1 d1]] w (WiPost w Q E) := by
  have b1 := j1.max
  obtain ⟨ca0, ca1⟩ := hca
  obtain ⟨se0, se1⟩ := hse
  obtain ⟨ak0, ak1⟩ := hak
  obtain ⟨z, hz⟩ : ∃ z : Int, (m1 : Int) % 65536 = z := ⟨_, rfl⟩
  have z0 : 0 ≤ z := by omega
  have z1 : z ≤ 65535 := by omega
  have hzw : IntKind.u16.wrap (m1 : Int) = z := by rw [← hz]; simp [IntKind.wrap, IntKind.signed, IntKind.bits]
  rw [hz] at hw2
  have H1 : Hid (put16 ([ub (b0F false), ub (b1F true), ub 136, ub 11] ++ [0, 0, 0, 0]) 4 z = grB false true ++ two z ++ [0, 0]) := by unfold Hid; simp [put16, putK, two, grB]
  have H2 : Hid (put16 (grB false true ++ two z ++ [0, 0]) 6 call = grB false true ++ two z ++ two call) := by unfold Hid; simp [put16, putK, two, grB]
  have hl4 : (cu [0, 0, 0, 0]).toArray = #[.int .u8 0, .int .u8 0, .int .u8 0, .int .u8 0] := rfl
  obtain ⟨k, hk⟩ : ∃ k : Nat, w.heap.size = k := ⟨_, rfl⟩
  obtain ⟨w1, hw1⟩ : ∃ w1, ((w.alloc (.cells #[.int .u8 (p).tos, .int .u16 (p).id, .bool (p).keep, .int .u8 (p).ttl, .int .u8 (p).proto, .int .u32 (p).src, .int .u32 (p).dst, .slice A1 n1 c1, .slice A2 n2 c2] 26)).alloc (.cells #[.int .u16 call, .bool false, .bool true, .int .u32 seq, .int .u32 ack, .slice B1 m1 d1] 52)).alloc (.cells #[.int .u8 0, .int .u16 0, .bool false, .int .u8 0, .int .u8 0, .int .u32 0, .int .u32 0, .slice none 0 0, .slice none 0 0] 26) = w1 := ⟨_, rfl⟩
  have P1 : Blk w1 k #[.int .u8 (p).tos, .int .u16 (p).id, .bool (p).keep, .int .u8 (p).ttl, .int .u8 (p).proto, .int .u32 (p).src, .int .u32 (p).dst, .slice A1 n1 c1, .slice A2 n2 c2] 26 := by rw [← hw1]; exact ((blk_new w _ _ k hk).alloc _).alloc _
  have F1 : Blk w1 (k + 1) #[.int .u16 call, .bool false, .bool true, .int .u32 seq, .int .u32 ack, .slice B1 m1 d1] 52 := by rw [← hw1]; exact (blk_new _ _ _ (k + 1) (by simp [hk])).alloc _
  have Z1 : Blk w1 (k + 1 + 1) #[.int .u8 0, .int .u16 0, .bool false, .int .u8 0, .int .u8 0, .int .u32 0, .int .u32 0, .slice none 0 0, .slice none 0 0] 26 := by rw [← hw1]; exact blk_new _ _ _ (k + 1 + 1) (by simp [hk])
  have R1 : Below w.heap.size w w1 := by rw [← hw1]; (repeat (first | with_reducible exact Below.refl _ _ | with_reducible refine below_drew ?_ | with_reducible refine below_drewN ?_ _ | with_reducible refine below_alloc ?_ (Nat.le_refl _) _ | with_reducible refine Below.setCell ?_ (by first | exact Nat.le_refl _ | (simp only []; omega)) _ | with_reducible assumption))
  have x1 := k1.below R1
  have y1 := j1.below R1
  have mc := F1.cell
  have zl1 := Z1.lt
  go_enter Try.func74, Try.ntmps74
  go_wp2_with (first
    | (go_at_call 82; ((with_reducible refine (begin_any false true _).mono ?_); rintro e w2 ⟨rfl, hB2⟩); (obtain ⟨w3, hw3⟩ : ∃ w3, w2.alloc (.cells #[.int .u8 (b0F false), .int .u8 (b1F true), .int .u8 136, .int .u8 11] 120) = w3 := ⟨_, rfl⟩); have G3 : Blk w3 w2.heap.size #[.int .u8 (b0F false), .int .u8 (b1F true), .int .u8 136, .int .u8 11] 120 := (by rw [← hw3]; exact blk_new w2 _ _ _ rfl); have V3 : Below w2.heap.size w2 w3 := (by rw [← hw3]; (repeat (first | with_reducible exact Below.refl _ _ | with_reducible refine below_drew ?_ | with_reducible refine below_drewN ?_ _ | with_reducible refine below_alloc ?_ (Nat.le_refl _) _ | with_reducible refine Below.setCell ?_ (by first | exact Nat.le_refl _ | (simp only []; omega)) _ | with_reducible assumption))); (obtain ⟨A4, c4, w4, hrun, O4, hB4⟩ := app_first w3 w2.heap.size (b0F false) (b1F true) (b0F_bd _).1 (b0F_bd _).2 (b1F_bd _).1 (b1F_bd _).2 G3))
    | (at_builtin; refine Lib.wpList_append_run _ rfl _ _ _ _ rfl _ _ rfl rfl _ _ hrun ?_))
  have T3 := below_then hB2 V3
  have T4 := below_then T3 hB4
  have F4 := F1.below T4
  have o4 := O4.bs
  have s3 := T3.size
  have s4 := hB4.size
  have hc4 : 8 ≤ c4 := o4.cap
  refine region_txt 9 (by kernel_rfl) (by kernel_rfl) ?_; (iterate 9 (first | (apply ObsK.skip (by rfl)) | (apply ObsK.v (by rfl); (intro wo hT; (repeat (first | (intro v hv; ((obtain ⟨A5, n5, c5, rfl, o5⟩ := hv; have u5 : n5 = 8 := (by rw [← o5.len]; rfl); subst u5; have ob5 := o5.bs))) | (intro _ _ k; try have hcv := cv k))); (have mc := (F4.below hT).cell; have bo := o4.below hT; have hsz : w4.heap.size ≤ wo.heap.size := hT.size); refine Goes.mk ?_; go_simp; first | exact goes_v | exact goes_b (by assumption) | (refine goes_enter ?_; first | (go_at_call 84; ((with_reducible refine (put16_any A4 8 c4 _ 4 z z0 z1 wo bo).mono ?_); rintro e w9 ⟨A9, c9, rfl, ho9, hB9⟩); rw [H1.out] at ho9; exact ret_p (own_isW ho9 hsz) hB9) | (go_at_call 84; ((with_reducible refine (put16_any A5 8 c5 _ 6 call ca0 ca1 wo ob5).mono ?_); rintro e w9 ⟨A9, c9, rfl, ho9, hB9⟩); rw [H2.out] at ho9; exact ret_p (own_isW ho9 hsz) hB9)))) | (apply ObsK.b (by rfl); (intro wo hT; (repeat (first | (intro v hv; ((obtain ⟨A5, n5, c5, rfl, o5⟩ := hv; have u5 : n5 = 8 := (by rw [← o5.len]; rfl); subst u5; have ob5 := o5.bs))) | (intro _ _ k; try have hcv := cv k))); (have mc := (F4.below hT).cell; have bo := o4.below hT; have hsz : w4.heap.size ≤ wo.heap.size := hT.size); refine Goes.mk ?_; go_simp; first | exact goes_v | exact goes_b (by assumption) | (refine goes_enter ?_; first | (go_at_call 84; ((with_reducible refine (put16_any A4 8 c4 _ 4 z z0 z1 wo bo).mono ?_); rintro e w9 ⟨A9, c9, rfl, ho9, hB9⟩); rw [H1.out] at ho9; exact ret_p (own_isW ho9 hsz) hB9) | (go_at_call 84; ((with_reducible refine (put16_any A5 8 c5 _ 6 call ca0 ca1 wo ob5).mono ?_); rintro e w9 ⟨A9, c9, rfl, ho9, hB9⟩); rw [H2.out] at ho9; exact ret_p (own_isW ho9 hsz) hB9)))) | (apply ObsK.p (q := isW w4.heap.size _) (by rfl) st_isW; (intro wo hT; (repeat (first | (intro v hv; ((obtain ⟨A5, n5, c5, rfl, o5⟩ := hv; have u5 : n5 = 8 := (by rw [← o5.len]; rfl); subst u5; have ob5 := o5.bs))) | (intro _ _ k; try have hcv := cv k))); (have mc := (F4.below hT).cell; have bo := o4.below hT; have hsz : w4.heap.size ≤ wo.heap.size := hT.size); refine Goes.mk ?_; go_simp; first | exact goes_v | exact goes_b (by assumption) | (refine goes_enter ?_; first | (go_at_call 84; ((with_reducible refine (put16_any A4 8 c4 _ 4 z z0 z1 wo bo).mono ?_); rintro e w9 ⟨A9, c9, rfl, ho9, hB9⟩); rw [H1.out] at ho9; exact ret_p (own_isW ho9 hsz) hB9) | (go_at_call 84; ((with_reducible refine (put16_any A5 8 c5 _ 6 call ca0 ca1 wo ob5).mono ?_); rintro e w9 ⟨A9, c9, rfl, ho9, hB9⟩); rw [H2.out] at ho9; exact ret_p (own_isW ho9 hsz) hB9)))))); refine ObsK.nil ?_; intro wz hBz; simp only [finOn, List.drop_succ_cons, List.drop_zero, List.drop_nil]
  rintro v6 ⟨A6, n6, c6, rfl, O6⟩ v7 hv7
  clear hv7
  have u6 : n6 = 8 := by rw [← O6.len]; rfl
  subst u6
  go_simp
  have T6 := below_then T4 hBz
  have P6 := P1.below T6
  have F6 := F1.below T6
  have Z6 := Z1.below T6
  have x6 := x1.below T6
  have y6 := y1.below T6
  have mc6 := F6.cell
  have sz6 := hBz.size
  generalize wz = w6 at *
  clear hBz o4 O4 hrun hB4 G3 hw3 V3 T3 F4 hw1 mc T4
  go_wp2_with fail
  obtain ⟨g7, rfl, gl7, gh7⟩ := O6.ptr (by omega)
  have H7a : Hid (put32 ((grB false true ++ two z ++ two call) ++ [0, 0, 0, 0]) 8 ack = (grB false true ++ two z ++ two call) ++ four ack) := by unfold Hid; simp [put32, putK, two, four, grB]
  have sl7 : w1.heap.size ≤ g7 := by omega
  refine regionX 8 [2] g7 (fun c W => match c with | 0 => Own W w4.heap.size 5 (some ⟨g7, 0, none⟩) 8 c6 (grB false true ++ two z ++ two call) | _ + 1 => True) (by kernel_rfl) (by kernel_rfl) (by kernel_rfl) O6 (fun c W W' hj hb => by cases c with | zero => exact Own.below hj hb | succ n => trivial) ?_; (iterate 8 (first | (apply ObsX.skip (by rfl) (by rfl)) | (apply ObsX.v (by rfl) (by rfl); (intro wo hE; (repeat (first | (intro v hv; ((first | (obtain ⟨Aq, cq, rfl, oq, oq'⟩ := hv) | (obtain ⟨Ap, np, cp, rfl, op⟩ := hv; have up : np = 12 := (by rw [← op.len]; rfl); subst up; have obp := op.bs)))) | (intro _ _ k; try have hcv := cv k))); (have mc := (F6.ext hE (by omega)).cell; have hsz := hE.size; have glx := gh7); refine Goes.mk ?_; first | (exact goes_appX _ _ rfl rfl hj (fun k e => by simp [Value.ownBlock] at e; exact e.symm) rfl oq (by omega) (by omega) (fun _ => trivial)) | (go_simp; first | exact goes_v | exact goes_litN hl4 rfl (by omega) (by omega) | (refine goes_enter ?_; first | (go_at_call 85; ((with_reducible refine (put32_any Ap 12 cp _ 8 ack ak0 ak1 wo obp).mono ?_); rintro e w9 ⟨A9, c9, rfl, ho9, hB9⟩); rw [H7a.out] at ho9; exact ret_p (own_isW ho9 hsz) hB9))))) | (apply ObsX.p (q := isN g7 4 [0, 0, 0, 0]) (by rfl) (by rfl) st_isN sx_isN; (intro wo hE; (repeat (first | (intro v hv; ((first | (obtain ⟨Aq, cq, rfl, oq, oq'⟩ := hv) | (obtain ⟨Ap, np, cp, rfl, op⟩ := hv; have up : np = 12 := (by rw [← op.len]; rfl); subst up; have obp := op.bs)))) | (intro _ _ k; try have hcv := cv k))); (have mc := (F6.ext hE (by omega)).cell; have hsz := hE.size; have glx := gh7); refine Goes.mk ?_; first | (exact goes_appX _ _ rfl rfl hj (fun k e => by simp [Value.ownBlock] at e; exact e.symm) rfl oq (by omega) (by omega) (fun _ => trivial)) | (go_simp; first | exact goes_v | exact goes_litN hl4 rfl (by omega) (by omega) | (refine goes_enter ?_; first | (go_at_call 85; ((with_reducible refine (put32_any Ap 12 cp _ 8 ack ak0 ak1 wo obp).mono ?_); rintro e w9 ⟨A9, c9, rfl, ho9, hB9⟩); rw [H7a.out] at ho9; exact ret_p (own_isW ho9 hsz) hB9))))) | (apply ObsX.p (q := isW w6.heap.size _) (by rfl) (by rfl) st_isW (sx_isW gh7); (intro wo hE; (repeat (first | (intro v hv; ((first | (obtain ⟨Aq, cq, rfl, oq, oq'⟩ := hv) | (obtain ⟨Ap, np, cp, rfl, op⟩ := hv; have up : np = 12 := (by rw [← op.len]; rfl); subst up; have obp := op.bs)))) | (intro _ _ k; try have hcv := cv k))); (have mc := (F6.ext hE (by omega)).cell; have hsz := hE.size; have glx := gh7); refine Goes.mk ?_; first | (exact goes_appX _ _ rfl rfl hj (fun k e => by simp [Value.ownBlock] at e; exact e.symm) rfl oq (by omega) (by omega) (fun _ => trivial)) | (go_simp; first | exact goes_v | exact goes_litN hl4 rfl (by omega) (by omega) | (refine goes_enter ?_; first | (go_at_call 85; ((with_reducible refine (put32_any Ap 12 cp _ 8 ack ak0 ak1 wo obp).mono ?_); rintro e w9 ⟨A9, c9, rfl, ho9, hB9⟩); rw [H7a.out] at ho9; exact ret_p (own_isW ho9 hsz) hB9))))) | (apply ObsX.ev (by rfl) (by rfl); (intro wo hE hj; (repeat (first | (intro v hv; ((first | (obtain ⟨Aq, cq, rfl, oq, oq'⟩ := hv) | (obtain ⟨Ap, np, cp, rfl, op⟩ := hv; have up : np = 12 := (by rw [← op.len]; rfl); subst up; have obp := op.bs)))) | (intro _ _ k; try have hcv := cv k))); (have mc := (F6.ext hE (by omega)).cell; have hsz := hE.size; have glx := gh7); refine GoesX.mk ?_; first | (exact goes_appX _ _ rfl rfl hj (fun k e => by simp [Value.ownBlock] at e; exact e.symm) rfl oq (by omega) (by omega) (fun _ => trivial)) | (go_simp; first | exact goes_v | exact goes_litN hl4 rfl (by omega) (by omega) | (refine goes_enter ?_; first | (go_at_call 85; ((with_reducible refine (put32_any Ap 12 cp _ 8 ack ak0 ak1 wo obp).mono ?_); rintro e w9 ⟨A9, c9, rfl, ho9, hB9⟩); rw [H7a.out] at ho9; exact ret_p (own_isW ho9 hsz) hB9))))) | (apply ObsX.ep (q := isN g7 4 [0, 0, 0, 0]) (by rfl) (by rfl) (by rfl) st_isN; (intro wo hE hj; (repeat (first | (intro v hv; ((first | (obtain ⟨Aq, cq, rfl, oq, oq'⟩ := hv) | (obtain ⟨Ap, np, cp, rfl, op⟩ := hv; have up : np = 12 := (by rw [← op.len]; rfl); subst up; have obp := op.bs)))) | (intro _ _ k; try have hcv := cv k))); (have mc := (F6.ext hE (by omega)).cell; have hsz := hE.size; have glx := gh7); refine GoesX.mk ?_; first | (exact goes_appX _ _ rfl rfl hj (fun k e => by simp [Value.ownBlock] at e; exact e.symm) rfl oq (by omega) (by omega) (fun _ => trivial)) | (go_simp; first | exact goes_v | exact goes_litN hl4 rfl (by omega) (by omega) | (refine goes_enter ?_; first | (go_at_call 85; ((with_reducible refine (put32_any Ap 12 cp _ 8 ack ak0 ak1 wo obp).mono ?_); rintro e w9 ⟨A9, c9, rfl, ho9, hB9⟩); rw [H7a.out] at ho9; exact ret_p (own_isW ho9 hsz) hB9))))) | (apply ObsX.ep (q := isW w6.heap.size _) (by rfl) (by rfl) (by rfl) st_isW; (intro wo hE hj; (repeat (first | (intro v hv; ((first | (obtain ⟨Aq, cq, rfl, oq, oq'⟩ := hv) | (obtain ⟨Ap, np, cp, rfl, op⟩ := hv; have up : np = 12 := (by rw [← op.len]; rfl); subst up; have obp := op.bs)))) | (intro _ _ k; try have hcv := cv k))); (have mc := (F6.ext hE (by omega)).cell; have hsz := hE.size; have glx := gh7); refine GoesX.mk ?_; first | (exact goes_appX _ _ rfl rfl hj (fun k e => by simp [Value.ownBlock] at e; exact e.symm) rfl oq (by omega) (by omega) (fun _ => trivial)) | (go_simp; first | exact goes_v | exact goes_litN hl4 rfl (by omega) (by omega) | (refine goes_enter ?_; first | (go_at_call 85; ((with_reducible refine (put32_any Ap 12 cp _ 8 ack ak0 ak1 wo obp).mono ?_); rintro e w9 ⟨A9, c9, rfl, ho9, hB9⟩); rw [H7a.out] at ho9; exact ret_p (own_isW ho9 hsz) hB9))))) | (apply ObsX.ep (q := isW w4.heap.size _) (by rfl) (by rfl) (by rfl) st_isW; (intro wo hE hj; (repeat (first | (intro v hv; ((first | (obtain ⟨Aq, cq, rfl, oq, oq'⟩ := hv) | (obtain ⟨Ap, np, cp, rfl, op⟩ := hv; have up : np = 12 := (by rw [← op.len]; rfl); subst up; have obp := op.bs)))) | (intro _ _ k; try have hcv := cv k))); (have mc := (F6.ext hE (by omega)).cell; have hsz := hE.size; have glx := gh7); refine GoesX.mk ?_; first | (exact goes_appX _ _ rfl rfl hj (fun k e => by simp [Value.ownBlock] at e; exact e.symm) rfl oq (by omega) (by omega) (fun _ => trivial)) | (go_simp; first | exact goes_v | exact goes_litN hl4 rfl (by omega) (by omega) | (refine goes_enter ?_; first | (go_at_call 85; ((with_reducible refine (put32_any Ap 12 cp _ 8 ack ak0 ak1 wo obp).mono ?_); rintro e w9 ⟨A9, c9, rfl, ho9, hB9⟩); rw [H7a.out] at ho9; exact ret_p (own_isW ho9 hsz) hB9))))))); refine ObsX.nil ?_; intro wz hEz hJz; simp only [finOn, List.drop_succ_cons, List.drop_zero, List.drop_nil]
  rintro v1 ⟨A7, n7, c7, rfl, O7⟩ v2 hv2 v3 hv3
  clear hv2 hv3
  have u7 : n7 = 12 := by rw [← O7.len]; rfl
  subst u7
  go_simp
  have T7 := below_ext T6 hEz sl7 T6.size
  have P7 := P6.ext hEz (by omega)
  have F7 := F6.ext hEz (by omega)
  have Z7 := Z6.ext hEz (by omega)
  have x7 := x1.below T7
  have y7 := y1.below T7
  have mc7 := F7.cell
  have sz7 : w6.heap.size ≤ wz.heap.size := hEz.size
  generalize wz = w7 at *
  clear hEz hJz mc6 O6
  obtain ⟨w9, hw9⟩ : ∃ w9, w7.alloc (.cells #[.slice A7 12 c7, .slice B1 m1 d1] 24) = w9 := ⟨_, rfl⟩
  have G9 : Blk w9 w7.heap.size #[.slice A7 12 c7, .slice B1 m1 d1] 24 := by rw [← hw9]; exact blk_new w7 _ _ _ rfl
  have V9 : Below w7.heap.size w7 w9 := by rw [← hw9]; (repeat (first | with_reducible exact Below.refl _ _ | with_reducible refine below_drew ?_ | with_reducible refine below_drewN ?_ _ | with_reducible refine below_alloc ?_ (Nat.le_refl _) _ | with_reducible refine Below.setCell ?_ (by first | exact Nat.le_refl _ | (simp only []; omega)) _ | with_reducible assumption))
  have o7 := O7.bs
  have hcat := isCat2 G9 (o7.below V9) (y7.below V9) (cc := 2) (by omega)
  have T9 := below_then T7 V9
  have pc7 := P7.cell
  have s9 := (below_then R1 T9).size
  have kz : k + 1 + 1 < w9.heap.size := (Z7.below V9).lt
  go_wp2_with (go_at_call 86; ((with_reducible refine (hw2 w9 _ hcat (x7.below V9)).mono ?_); rintro e w10 ⟨⟨C1, e1, f1, C2, e2, f2, rfl, O1, O2, hB10⟩⟩); have T10 := below_then T9 hB10; have Z10 := Z1.below T10; have zc10 := Z10.cell)
  obtain ⟨wf, hwf, Sf⟩ := store9 Z10 (.int .u8 Q.tos) (.int .u16 Q.id) (.bool Q.keep) (.int .u8 Q.ttl) (.int .u8 Q.proto) (.int .u32 Q.src) (.int .u32 Q.dst) (.slice C1 e1 f1) (.slice C2 e2 f2)
  rw [hwf]
  have pf := Sf.blk.cell
  have Of := Sf.own O1 (fun a e => by have := O1.ge a e; omega)
  have Df := Sf.own O2 (fun a e => by have := O2.ge a e; omega)
  refine bodyPost_ret (v := .tuple #[(.agg #[.int .u8 (Q).tos, .int .u16 (Q).id, .bool (Q).keep, .int .u8 (Q).ttl, .int .u8 (Q).proto, .int .u32 (Q).src, .int .u32 (Q).dst, .slice C1 e1 f1, .slice C2 e2 f2]), .int .i64 E]) (by simp [results, Try.results74, go_sem, pf]) rfl ⟨⟨C1, e1, f1, C2, e2, f2, rfl, Of.mono s9, Df.mono s9, Sf.bel (below_then R1 T10) (by omega)⟩⟩
theorem bg_ok10 (p : Pkt) (A1 : Option Addr) (n1 c1 : Nat) (A2 : Option Addr) (n2 c2 : Nat) (call : Int) (hca : 0 ≤ call ∧ call ≤ 65535) (seq ack : Int) (hse : 0 ≤ seq ∧ seq ≤ 4294967295) (hak : 0 ≤ ack ∧ ack ≤ 4294967295) (hac : (ack != 0) = false) (dat : List UInt8) (B1 : Option Addr) (m1 d1 : Nat) (w : World) (k1 : Bs w A1 n1 c1 p.opt) (j1 : Bs w B1 m1 d1 dat)
    (Q : Pkt) (E : Int) (hw2 : ∀ W lv, isCat lv (((grB true false ++ two ((m1 : Int) % 65536) ++ two call) ++ four seq) ++ dat) W → Bs W A1 n1 c1 p.opt → Calls Try.prog 86 #[(.agg #[.int .u8 (p).tos, .int .u16 (p).id, .bool (p).keep, .int .u8 (p).ttl, .int .u8 (p).proto, .int .u32 (p).src, .int .u32 (p).dst, .slice A1 n1 c1, .slice A2 n2 c2]), .int .u8 47, lv] W (WiPost W Q E)) (hm1 : m1 ≤ 140737488400000) :
    Calls Try.prog 74 #[(.agg #[.int .u8 (p).tos, .int .u16 (p).id, .bool (p).keep, .int .u8 (p).ttl, .int .u8 (p).proto, .int .u32 (p).src, .int .u32 (p).dst, .slice A1 n1 c1, .slice A2 n2 c2]), .agg #[.int .u16 call, .bool true, .bool false, .int .u32 seq, .int .u32 ack, .slice B1 m1 d1]] w (WiPost w Q E) := by
  have b1 := j1.max
  obtain ⟨ca0, ca1⟩ := hca
  obtain ⟨se0, se1⟩ := hse
  obtain ⟨ak0, ak1⟩ := hak
  obtain ⟨z, hz⟩ : ∃ z : Int, (m1 : Int) % 65536 = z := ⟨_, rfl⟩
  have z0 : 0 ≤ z := by omega
  have z1 : z ≤ 65535 := by omega
  have hzw : IntKind.u16.wrap (m1 : Int) = z := by rw [← hz]; simp [IntKind.wrap, IntKind.signed, IntKind.bits]
  rw [hz] at hw2
  have H1 : Hid (put16 ([ub (b0F true), ub (b1F false), ub 136, ub 11] ++ [0, 0, 0, 0]) 4 z = grB true false ++ two z ++ [0, 0]) := by unfold Hid; simp [put16, putK, two, grB]
  have H2 : Hid (put16 (grB true false ++ two z ++ [0, 0]) 6 call = grB true false ++ two z ++ two call) := by unfold Hid; simp [put16, putK, two, grB]
  have hl4 : (cu [0, 0, 0, 0]).toArray = #[.int .u8 0, .int .u8 0, .int .u8 0, .int .u8 0] := rfl
  obtain ⟨k, hk⟩ : ∃ k : Nat, w.heap.size = k := ⟨_, rfl⟩
  obtain ⟨w1, hw1⟩ : ∃ w1, ((w.alloc (.cells #[.int .u8 (p).tos, .int .u16 (p).id, .bool (p).keep, .int .u8 (p).ttl, .int .u8 (p).proto, .int .u32 (p).src, .int .u32 (p).dst, .slice A1 n1 c1, .slice A2 n2 c2] 26)).alloc (.cells #[.int .u16 call, .bool true, .bool false, .int .u32 seq, .int .u32 ack, .slice B1 m1 d1] 52)).alloc (.cells #[.int .u8 0, .int .u16 0, .bool false, .int .u8 0, .int .u8 0, .int .u32 0, .int .u32 0, .slice none 0 0, .slice none 0 0] 26) = w1 := ⟨_, rfl⟩
  have P1 : Blk w1 k #[.int .u8 (p).tos, .int .u16 (p).id, .bool (p).keep, .int .u8 (p).ttl, .int .u8 (p).proto, .int .u32 (p).src, .int .u32 (p).dst, .slice A1 n1 c1, .slice A2 n2 c2] 26 := by rw [← hw1]; exact ((blk_new w _ _ k hk).alloc _).alloc _
  have F1 : Blk w1 (k + 1) #[.int .u16 call, .bool true, .bool false, .int .u32 seq, .int .u32 ack, .slice B1 m1 d1] 52 := by rw [← hw1]; exact (blk_new _ _ _ (k + 1) (by simp [hk])).alloc _
  have Z1 : Blk w1 (k + 1 + 1) #[.int .u8 0, .int .u16 0, .bool false, .int .u8 0, .int .u8 0, .int .u32 0, .int .u32 0, .slice none 0 0, .slice none 0 0] 26 := by rw [← hw1]; exact blk_new _ _ _ (k + 1 + 1) (by simp [hk])
  have R1 : Below w.heap.size w w1 := by rw [← hw1]; (repeat (first | with_reducible exact Below.refl _ _ | with_reducible refine below_drew ?_ | with_reducible refine below_drewN ?_ _ | with_reducible refine below_alloc ?_ (Nat.le_refl _) _ | with_reducible refine Below.setCell ?_ (by first | exact Nat.le_refl _ | (simp only []; omega)) _ | with_reducible assumption))
  have x1 := k1.below R1
  have y1 := j1.below R1
  have mc := F1.cell
  have zl1 := Z1.lt
  go_enter Try.func74, Try.ntmps74
  go_wp2_with (first
    | (go_at_call 82; ((with_reducible refine (begin_any true false _).mono ?_); rintro e w2 ⟨rfl, hB2⟩); (obtain ⟨w3, hw3⟩ : ∃ w3, w2.alloc (.cells #[.int .u8 (b0F true), .int .u8 (b1F false), .int .u8 136, .int .u8 11] 120) = w3 := ⟨_, rfl⟩); have G3 : Blk w3 w2.heap.size #[.int .u8 (b0F true), .int .u8 (b1F false), .int .u8 136, .int .u8 11] 120 := (by rw [← hw3]; exact blk_new w2 _ _ _ rfl); have V3 : Below w2.heap.size w2 w3 := (by rw [← hw3]; (repeat (first | with_reducible exact Below.refl _ _ | with_reducible refine below_drew ?_ | with_reducible refine below_drewN ?_ _ | with_reducible refine below_alloc ?_ (Nat.le_refl _) _ | with_reducible refine Below.setCell ?_ (by first | exact Nat.le_refl _ | (simp only []; omega)) _ | with_reducible assumption))); (obtain ⟨A4, c4, w4, hrun, O4, hB4⟩ := app_first w3 w2.heap.size (b0F true) (b1F false) (b0F_bd _).1 (b0F_bd _).2 (b1F_bd _).1 (b1F_bd _).2 G3))
    | (at_builtin; refine Lib.wpList_append_run _ rfl _ _ _ _ rfl _ _ rfl rfl _ _ hrun ?_))
  have T3 := below_then hB2 V3
  have T4 := below_then T3 hB4
  have F4 := F1.below T4
  have o4 := O4.bs
  have s3 := T3.size
  have s4 := hB4.size
  have hc4 : 8 ≤ c4 := o4.cap
  refine region_txt 9 (by kernel_rfl) (by kernel_rfl) ?_; (iterate 9 (first | (apply ObsK.skip (by rfl)) | (apply ObsK.v (by rfl); (intro wo hT; (repeat (first | (intro v hv; ((obtain ⟨A5, n5, c5, rfl, o5⟩ := hv; have u5 : n5 = 8 := (by rw [← o5.len]; rfl); subst u5; have ob5 := o5.bs))) | (intro _ _ k; try have hcv := cv k))); (have mc := (F4.below hT).cell; have bo := o4.below hT; have hsz : w4.heap.size ≤ wo.heap.size := hT.size); refine Goes.mk ?_; go_simp; first | exact goes_v | exact goes_b (by assumption) | (refine goes_enter ?_; first | (go_at_call 84; ((with_reducible refine (put16_any A4 8 c4 _ 4 z z0 z1 wo bo).mono ?_); rintro e w9 ⟨A9, c9, rfl, ho9, hB9⟩); rw [H1.out] at ho9; exact ret_p (own_isW ho9 hsz) hB9) | (go_at_call 84; ((with_reducible refine (put16_any A5 8 c5 _ 6 call ca0 ca1 wo ob5).mono ?_); rintro e w9 ⟨A9, c9, rfl, ho9, hB9⟩); rw [H2.out] at ho9; exact ret_p (own_isW ho9 hsz) hB9)))) | (apply ObsK.b (by rfl); (intro wo hT; (repeat (first | (intro v hv; ((obtain ⟨A5, n5, c5, rfl, o5⟩ := hv; have u5 : n5 = 8 := (by rw [← o5.len]; rfl); subst u5; have ob5 := o5.bs))) | (intro _ _ k; try have hcv := cv k))); (have mc := (F4.below hT).cell; have bo := o4.below hT; have hsz : w4.heap.size ≤ wo.heap.size := hT.size); refine Goes.mk ?_; go_simp; first | exact goes_v | exact goes_b (by assumption) | (refine goes_enter ?_; first | (go_at_call 84; ((with_reducible refine (put16_any A4 8 c4 _ 4 z z0 z1 wo bo).mono ?_); rintro e w9 ⟨A9, c9, rfl, ho9, hB9⟩); rw [H1.out] at ho9; exact ret_p (own_isW ho9 hsz) hB9) | (go_at_call 84; ((with_reducible refine (put16_any A5 8 c5 _ 6 call ca0 ca1 wo ob5).mono ?_); rintro e w9 ⟨A9, c9, rfl, ho9, hB9⟩); rw [H2.out] at ho9; exact ret_p (own_isW ho9 hsz) hB9)))) | (apply ObsK.p (q := isW w4.heap.size _) (by rfl) st_isW; (intro wo hT; (repeat (first | (intro v hv; ((obtain ⟨A5, n5, c5, rfl, o5⟩ := hv; have u5 : n5 = 8 := (by rw [← o5.len]; rfl); subst u5; have ob5 := o5.bs))) | (intro _ _ k; try have hcv := cv k))); (have mc := (F4.below hT).cell; have bo := o4.below hT; have hsz : w4.heap.size ≤ wo.heap.size := hT.size); refine Goes.mk ?_; go_simp; first | exact goes_v | exact goes_b (by assumption) | (refine goes_enter ?_; first | (go_at_call 84; ((with_reducible refine (put16_any A4 8 c4 _ 4 z z0 z1 wo bo).mono ?_); rintro e w9 ⟨A9, c9, rfl, ho9, hB9⟩); rw [H1.out] at ho9; exact ret_p (own_isW ho9 hsz) hB9) | (go_at_call 84; ((with_reducible refine (put16_any A5 8 c5 _ 6 call ca0 ca1 wo ob5).mono ?_); rintro e w9 ⟨A9, c9, rfl, ho9, hB9⟩); rw [H2.out] at ho9; exact ret_p (own_isW ho9 hsz) hB9)))))); refine ObsK.nil ?_; intro wz hBz; simp only [finOn, List.drop_succ_cons, List.drop_zero, List.drop_nil]
  rintro v6 ⟨A6, n6, c6, rfl, O6⟩ v7 hv7
  clear hv7
  have u6 : n6 = 8 := by rw [← O6.len]; rfl
  subst u6
  go_simp
  have T6 := below_then T4 hBz
  have P6 := P1.below T6
  have F6 := F1.below T6
  have Z6 := Z1.below T6
  have x6 := x1.below T6
  have y6 := y1.below T6
  have mc6 := F6.cell
  have sz6 := hBz.size
  generalize wz = w6 at *
  clear hBz o4 O4 hrun hB4 G3 hw3 V3 T3 F4 hw1 mc T4
  go_wp2_with fail
  obtain ⟨g7, rfl, gl7, gh7⟩ := O6.ptr (by omega)
  have H7a : Hid (put32 ((grB true false ++ two z ++ two call) ++ [0, 0, 0, 0]) 8 seq = (grB true false ++ two z ++ two call) ++ four seq) := by unfold Hid; simp [put32, putK, two, four, grB]
  have sl7 : w1.heap.size ≤ g7 := by omega
  refine regionX 8 [2] g7 (fun c W => match c with | 0 => Own W w4.heap.size 5 (some ⟨g7, 0, none⟩) 8 c6 (grB true false ++ two z ++ two call) | _ + 1 => True) (by kernel_rfl) (by kernel_rfl) (by kernel_rfl) O6 (fun c W W' hj hb => by cases c with | zero => exact Own.below hj hb | succ n => trivial) ?_; (iterate 8 (first | (apply ObsX.skip (by rfl) (by rfl)) | (apply ObsX.v (by rfl) (by rfl); (intro wo hE; (repeat (first | (intro v hv; ((first | (obtain ⟨Aq, cq, rfl, oq, oq'⟩ := hv) | (obtain ⟨Ap, np, cp, rfl, op⟩ := hv; have up : np = 12 := (by rw [← op.len]; rfl); subst up; have obp := op.bs)))) | (intro _ _ k; try have hcv := cv k))); (have mc := (F6.ext hE (by omega)).cell; have hsz := hE.size; have glx := gh7); refine Goes.mk ?_; first | (exact goes_appX _ _ rfl rfl hj (fun k e => by simp [Value.ownBlock] at e; exact e.symm) rfl oq (by omega) (by omega) (fun _ => trivial)) | (go_simp; first | exact goes_v | exact goes_litN hl4 rfl (by omega) (by omega) | (refine goes_enter ?_; first | (go_at_call 85; ((with_reducible refine (put32_any Ap 12 cp _ 8 seq se0 se1 wo obp).mono ?_); rintro e w9 ⟨A9, c9, rfl, ho9, hB9⟩); rw [H7a.out] at ho9; exact ret_p (own_isW ho9 hsz) hB9))))) | (apply ObsX.p (q := isN g7 4 [0, 0, 0, 0]) (by rfl) (by rfl) st_isN sx_isN; (intro wo hE; (repeat (first | (intro v hv; ((first | (obtain ⟨Aq, cq, rfl, oq, oq'⟩ := hv) | (obtain ⟨Ap, np, cp, rfl, op⟩ := hv; have up : np = 12 := (by rw [← op.len]; rfl); subst up; have obp := op.bs)))) | (intro _ _ k; try have hcv := cv k))); (have mc := (F6.ext hE (by omega)).cell; have hsz := hE.size; have glx := gh7); refine Goes.mk ?_; first | (exact goes_appX _ _ rfl rfl hj (fun k e => by simp [Value.ownBlock] at e; exact e.symm) rfl oq (by omega) (by omega) (fun _ => trivial)) | (go_simp; first | exact goes_v | exact goes_litN hl4 rfl (by omega) (by omega) | (refine goes_enter ?_; first | (go_at_call 85; ((with_reducible refine (put32_any Ap 12 cp _ 8 seq se0 se1 wo obp).mono ?_); rintro e w9 ⟨A9, c9, rfl, ho9, hB9⟩); rw [H7a.out] at ho9; exact ret_p (own_isW ho9 hsz) hB9))))) | (apply ObsX.p (q := isW w6.heap.size _) (by rfl) (by rfl) st_isW (sx_isW gh7); (intro wo hE; (repeat (first | (intro v hv; ((first | (obtain ⟨Aq, cq, rfl, oq, oq'⟩ := hv) | (obtain ⟨Ap, np, cp, rfl, op⟩ := hv; have up : np = 12 := (by rw [← op.len]; rfl); subst up; have obp := op.bs)))) | (intro _ _ k; try have hcv := cv k))); (have mc := (F6.ext hE (by omega)).cell; have hsz := hE.size; have glx := gh7); refine Goes.mk ?_; first | (exact goes_appX _ _ rfl rfl hj (fun k e => by simp [Value.ownBlock] at e; exact e.symm) rfl oq (by omega) (by omega) (fun _ => trivial)) | (go_simp; first | exact goes_v | exact goes_litN hl4 rfl (by omega) (by omega) | (refine goes_enter ?_; first | (go_at_call 85; ((with_reducible refine (put32_any Ap 12 cp _ 8 seq se0 se1 wo obp).mono ?_); rintro e w9 ⟨A9, c9, rfl, ho9, hB9⟩); rw [H7a.out] at ho9; exact ret_p (own_isW ho9 hsz) hB9))))) | (apply ObsX.ev (by rfl) (by rfl); (intro wo hE hj; (repeat (first | (intro v hv; ((first | (obtain ⟨Aq, cq, rfl, oq, oq'⟩ := hv) | (obtain ⟨Ap, np, cp, rfl, op⟩ := hv; have up : np = 12 := (by rw [← op.len]; rfl); subst up; have obp := op.bs)))) | (intro _ _ k; try have hcv := cv k))); (have mc := (F6.ext hE (by omega)).cell; have hsz := hE.size; have glx := gh7); refine GoesX.mk ?_; first | (exact goes_appX _ _ rfl rfl hj (fun k e => by simp [Value.ownBlock] at e; exact e.symm) rfl oq (by omega) (by omega) (fun _ => trivial)) | (go_simp; first | exact goes_v | exact goes_litN hl4 rfl (by omega) (by omega) | (refine goes_enter ?_; first | (go_at_call 85; ((with_reducible refine (put32_any Ap 12 cp _ 8 seq se0 se1 wo obp).mono ?_); rintro e w9 ⟨A9, c9, rfl, ho9, hB9⟩); rw [H7a.out] at ho9; exact ret_p (own_isW ho9 hsz) hB9))))) | (apply ObsX.ep (q := isN g7 4 [0, 0, 0, 0]) (by rfl) (by rfl) (by rfl) st_isN; (intro wo hE hj; (repeat (first | (intro v hv; ((first | (obtain ⟨Aq, cq, rfl, oq, oq'⟩ := hv) | (obtain ⟨Ap, np, cp, rfl, op⟩ := hv; have up : np = 12 := (by rw [← op.len]; rfl); subst up; have obp := op.bs)))) | (intro _ _ k; try have hcv := cv k))); (have mc := (F6.ext hE (by omega)).cell; have hsz := hE.size; have glx := gh7); refine GoesX.mk ?_; first | (exact goes_appX _ _ rfl rfl hj (fun k e => by simp [Value.ownBlock] at e; exact e.symm) rfl oq (by omega) (by omega) (fun _ => trivial)) | (go_simp; first | exact goes_v | exact goes_litN hl4 rfl (by omega) (by omega) | (refine goes_enter ?_; first | (go_at_call 85; ((with_reducible refine (put32_any Ap 12 cp _ 8 seq se0 se1 wo obp).mono ?_); rintro e w9 ⟨A9, c9, rfl, ho9, hB9⟩); rw [H7a.out] at ho9; exact ret_p (own_isW ho9 hsz) hB9))))) | (apply ObsX.ep (q := isW w6.heap.size _) (by rfl) (by rfl) (by rfl) st_isW; (intro wo hE hj; (repeat (first | (intro v hv; ((first | (obtain ⟨Aq, cq, rfl, oq, oq'⟩ := hv) | (obtain ⟨Ap, np, cp, rfl, op⟩ := hv; have up : np = 12 := (by rw [← op.len]; rfl); subst up; have obp := op.bs)))) | (intro _ _ k; try have hcv := cv k))); (have mc := (F6.ext hE (by omega)).cell; have hsz := hE.size; have glx := gh7); refine GoesX.mk ?_; first | (exact goes_appX _ _ rfl rfl hj (fun k e => by simp [Value.ownBlock] at e; exact e.symm) rfl oq (by omega) (by omega) (fun _ => trivial)) | (go_simp; first | exact goes_v | exact goes_litN hl4 rfl (by omega) (by omega) | (refine goes_enter ?_; first | (go_at_call 85; ((with_reducible refine (put32_any Ap 12 cp _ 8 seq se0 se1 wo obp).mono ?_); rintro e w9 ⟨A9, c9, rfl, ho9, hB9⟩); rw [H7a.out] at ho9; exact ret_p (own_isW ho9 hsz) hB9))))) | (apply ObsX.ep (q := isW w4.heap.size _) (by rfl) (by rfl) (by rfl) st_isW; (intro wo hE hj; (repeat (first | (intro v hv; ((first | (obtain ⟨Aq, cq, rfl, oq, oq'⟩ := hv) | (obtain ⟨Ap, np, cp, rfl, op⟩ := hv; have up : np = 12 := (by rw [← op.len]; rfl); subst up; have obp := op.bs)))) | (intro _ _ k; try have hcv := cv k))); (have mc := (F6.ext hE (by omega)).cell; have hsz := hE.size; have glx := gh7); refine GoesX.mk ?_; first | (exact goes_appX _ _ rfl rfl hj (fun k e => by simp [Value.ownBlock] at e; exact e.symm) rfl oq (by omega) (by omega) (fun _ => trivial)) | (go_simp; first | exact goes_v | exact goes_litN hl4 rfl (by omega) (by omega) | (refine goes_enter ?_; first | (go_at_call 85; ((with_reducible refine (put32_any Ap 12 cp _ 8 seq se0 se1 wo obp).mono ?_); rintro e w9 ⟨A9, c9, rfl, ho9, hB9⟩); rw [H7a.out] at ho9; exact ret_p (own_isW ho9 hsz) hB9))))))); refine ObsX.nil ?_; intro wz hEz hJz; simp only [finOn, List.drop_succ_cons, List.drop_zero, List.drop_nil]
  rintro v1 ⟨A7, n7, c7, rfl, O7⟩ v2 hv2 v3 hv3
  clear hv2 hv3
  have u7 : n7 = 12 := by rw [← O7.len]; rfl
  subst u7
  go_simp
  have T7 := below_ext T6 hEz sl7 T6.size
  have P7 := P6.ext hEz (by omega)
  have F7 := F6.ext hEz (by omega)
  have Z7 := Z6.ext hEz (by omega)
  have x7 := x1.below T7
  have y7 := y1.below T7
  have mc7 := F7.cell
  have sz7 : w6.heap.size ≤ wz.heap.size := hEz.size
  generalize wz = w7 at *
  clear hEz hJz mc6 O6
  obtain ⟨w9, hw9⟩ : ∃ w9, w7.alloc (.cells #[.slice A7 12 c7, .slice B1 m1 d1] 24) = w9 := ⟨_, rfl⟩
  have G9 : Blk w9 w7.heap.size #[.slice A7 12 c7, .slice B1 m1 d1] 24 := by rw [← hw9]; exact blk_new w7 _ _ _ rfl
  have V9 : Below w7.heap.size w7 w9 := by rw [← hw9]; (repeat (first | with_reducible exact Below.refl _ _ | with_reducible refine below_drew ?_ | with_reducible refine below_drewN ?_ _ | with_reducible refine below_alloc ?_ (Nat.le_refl _) _ | with_reducible refine Below.setCell ?_ (by first | exact Nat.le_refl _ | (simp only []; omega)) _ | with_reducible assumption))
  have o7 := O7.bs
  have hcat := isCat2 G9 (o7.below V9) (y7.below V9) (cc := 2) (by omega)
  have T9 := below_then T7 V9
  have pc7 := P7.cell
  have s9 := (below_then R1 T9).size
  have kz : k + 1 + 1 < w9.heap.size := (Z7.below V9).lt
  go_wp2_with (go_at_call 86; ((with_reducible refine (hw2 w9 _ hcat (x7.below V9)).mono ?_); rintro e w10 ⟨⟨C1, e1, f1, C2, e2, f2, rfl, O1, O2, hB10⟩⟩); have T10 := below_then T9 hB10; have Z10 := Z1.below T10; have zc10 := Z10.cell)
  obtain ⟨wf, hwf, Sf⟩ := store9 Z10 (.int .u8 Q.tos) (.int .u16 Q.id) (.bool Q.keep) (.int .u8 Q.ttl) (.int .u8 Q.proto) (.int .u32 Q.src) (.int .u32 Q.dst) (.slice C1 e1 f1) (.slice C2 e2 f2)
  rw [hwf]
  have pf := Sf.blk.cell
  have Of := Sf.own O1 (fun a e => by have := O1.ge a e; omega)
  have Df := Sf.own O2 (fun a e => by have := O2.ge a e; omega)
  refine bodyPost_ret (v := .tuple #[(.agg #[.int .u8 (Q).tos, .int .u16 (Q).id, .bool (Q).keep, .int .u8 (Q).ttl, .int .u8 (Q).proto, .int .u32 (Q).src, .int .u32 (Q).dst, .slice C1 e1 f1, .slice C2 e2 f2]), .int .i64 E]) (by simp [results, Try.results74, go_sem, pf]) rfl ⟨⟨C1, e1, f1, C2, e2, f2, rfl, Of.mono s9, Df.mono s9, Sf.bel (below_then R1 T10) (by omega)⟩⟩
theorem bg_ok11 (p : Pkt) (A1 : Option Addr) (n1 c1 : Nat) (A2 : Option Addr) (n2 c2 : Nat) (call : Int) (hca : 0 ≤ call ∧ call ≤ 65535) (seq ack : Int) (hse : 0 ≤ seq ∧ seq ≤ 4294967295) (hak : 0 ≤ ack ∧ ack ≤ 4294967295) (dat : List UInt8) (B1 : Option Addr) (m1 d1 : Nat) (w : World) (k1 : Bs w A1 n1 c1 p.opt) (j1 : Bs w B1 m1 d1 dat)
    (Q : Pkt) (E : Int) (hw2 : ∀ W lv, isCat lv ((((grB true true ++ two ((m1 : Int) % 65536) ++ two call) ++ four seq) ++ four ack) ++ dat) W → Bs W A1 n1 c1 p.opt → Calls Try.prog 86 #[(.agg #[.int .u8 (p).tos, .int .u16 (p).id, .bool (p).keep, .int .u8 (p).ttl, .int .u8 (p).proto, .int .u32 (p).src, .int .u32 (p).dst, .slice A1 n1 c1, .slice A2 n2 c2]), .int .u8 47, lv] W (WiPost W Q E)) (hm1 : m1 ≤ 140737488400000) :
    Calls Try.prog 74 #[(.agg #[.int .u8 (p).tos, .int .u16 (p).id, .bool (p).keep, .int .u8 (p).ttl, .int .u8 (p).proto, .int .u32 (p).src, .int .u32 (p).dst, .slice A1 n1 c1, .slice A2 n2 c2]), .agg #[.int .u16 call, .bool true, .bool true, .int .u32 seq, .int .u32 ack, .slice B1 m1 d1]] w (WiPost w Q E) := by
  have b1 := j1.max
  obtain ⟨ca0, ca1⟩ := hca
  obtain ⟨se0, se1⟩ := hse
  obtain ⟨ak0, ak1⟩ := hak
  obtain ⟨z, hz⟩ : ∃ z : Int, (m1 : Int) % 65536 = z := ⟨_, rfl⟩
  have z0 : 0 ≤ z := by omega
  have z1 : z ≤ 65535 := by omega
  have hzw : IntKind.u16.wrap (m1 : Int) = z := by rw [← hz]; simp [IntKind.wrap, IntKind.signed, IntKind.bits]
  rw [hz] at hw2
  have H1 : Hid (put16 ([ub (b0F true), ub (b1F true), ub 136, ub 11] ++ [0, 0, 0, 0]) 4 z = grB true true ++ two z ++ [0, 0]) := by unfold Hid; simp [put16, putK, two, grB]
  have H2 : Hid (put16 (grB true true ++ two z ++ [0, 0]) 6 call = grB true true ++ two z ++ two call) := by unfold Hid; simp [put16, putK, two, grB]
  have hl4 : (cu [0, 0, 0, 0]).toArray = #[.int .u8 0, .int .u8 0, .int .u8 0, .int .u8 0] := rfl
  obtain ⟨k, hk⟩ : ∃ k : Nat, w.heap.size = k := ⟨_, rfl⟩
  obtain ⟨w1, hw1⟩ : ∃ w1, ((w.alloc (.cells #[.int .u8 (p).tos, .int .u16 (p).id, .bool (p).keep, .int .u8 (p).ttl, .int .u8 (p).proto, .int .u32 (p).src, .int .u32 (p).dst, .slice A1 n1 c1, .slice A2 n2 c2] 26)).alloc (.cells #[.int .u16 call, .bool true, .bool true, .int .u32 seq, .int .u32 ack, .slice B1 m1 d1] 52)).alloc (.cells #[.int .u8 0, .int .u16 0, .bool false, .int .u8 0, .int .u8 0, .int .u32 0, .int .u32 0, .slice none 0 0, .slice none 0 0] 26) = w1 := ⟨_, rfl⟩
  have P1 : Blk w1 k #[.int .u8 (p).tos, .int .u16 (p).id, .bool (p).keep, .int .u8 (p).ttl, .int .u8 (p).proto, .int .u32 (p).src, .int .u32 (p).dst, .slice A1 n1 c1, .slice A2 n2 c2] 26 := by rw [← hw1]; exact ((blk_new w _ _ k hk).alloc _).alloc _
  have F1 : Blk w1 (k + 1) #[.int .u16 call, .bool true, .bool true, .int .u32 seq, .int .u32 ack, .slice B1 m1 d1] 52 := by rw [← hw1]; exact (blk_new _ _ _ (k + 1) (by simp [hk])).alloc _
  have Z1 : Blk w1 (k + 1 + 1) #[.int .u8 0, .int .u16 0, .bool false, .int .u8 0, .int .u8 0, .int .u32 0, .int .u32 0, .slice none 0 0, .slice none 0 0] 26 := by rw [← hw1]; exact blk_new _ _ _ (k + 1 + 1) (by simp [hk])
  have R1 : Below w.heap.size w w1 := by rw [← hw1]; (repeat (first | with_reducible exact Below.refl _ _ | with_reducible refine below_drew ?_ | with_reducible refine below_drewN ?_ _ | with_reducible refine below_alloc ?_ (Nat.le_refl _) _ | with_reducible refine Below.setCell ?_ (by first | exact Nat.le_refl _ | (simp only []; omega)) _ | with_reducible assumption))
  have x1 := k1.below R1
  have y1 := j1.below R1
  have mc := F1.cell
  have zl1 := Z1.lt
  go_enter Try.func74, Try.ntmps74
  go_wp2_with (first
    | (go_at_call 82; ((with_reducible refine (begin_any true true _).mono ?_); rintro e w2 ⟨rfl, hB2⟩); (obtain ⟨w3, hw3⟩ : ∃ w3, w2.alloc (.cells #[.int .u8 (b0F true), .int .u8 (b1F true), .int .u8 136, .int .u8 11] 120) = w3 := ⟨_, rfl⟩); have G3 : Blk w3 w2.heap.size #[.int .u8 (b0F true), .int .u8 (b1F true), .int .u8 136, .int .u8 11] 120 := (by rw [← hw3]; exact blk_new w2 _ _ _ rfl); have V3 : Below w2.heap.size w2 w3 := (by rw [← hw3]; (repeat (first | with_reducible exact Below.refl _ _ | with_reducible refine below_drew ?_ | with_reducible refine below_drewN ?_ _ | with_reducible refine below_alloc ?_ (Nat.le_refl _) _ | with_reducible refine Below.setCell ?_ (by first | exact Nat.le_refl _ | (simp only []; omega)) _ | with_reducible assumption))); (obtain ⟨A4, c4, w4, hrun, O4, hB4⟩ := app_first w3 w2.heap.size (b0F true) (b1F true) (b0F_bd _).1 (b0F_bd _).2 (b1F_bd _).1 (b1F_bd _).2 G3))
    | (at_builtin; refine Lib.wpList_append_run _ rfl _ _ _ _ rfl _ _ rfl rfl _ _ hrun ?_))
  have T3 := below_then hB2 V3
  have T4 := below_then T3 hB4
  have F4 := F1.below T4
  have o4 := O4.bs
  have s3 := T3.size
  have s4 := hB4.size
  have hc4 : 8 ≤ c4 := o4.cap
  refine region_txt 9 (by kernel_rfl) (by kernel_rfl) ?_; (iterate 9 (first | (apply ObsK.skip (by rfl)) | (apply ObsK.v (by rfl); (intro wo hT; (repeat (first | (intro v hv; ((obtain ⟨A5, n5, c5, rfl, o5⟩ := hv; have u5 : n5 = 8 := (by rw [← o5.len]; rfl); subst u5; have ob5 := o5.bs))) | (intro _ _ k; try have hcv := cv k))); (have mc := (F4.below hT).cell; have bo := o4.below hT; have hsz : w4.heap.size ≤ wo.heap.size := hT.size); refine Goes.mk ?_; go_simp; first | exact goes_v | exact goes_b (by assumption) | (refine goes_enter ?_; first | (go_at_call 84; ((with_reducible refine (put16_any A4 8 c4 _ 4 z z0 z1 wo bo).mono ?_); rintro e w9 ⟨A9, c9, rfl, ho9, hB9⟩); rw [H1.out] at ho9; exact ret_p (own_isW ho9 hsz) hB9) | (go_at_call 84; ((with_reducible refine (put16_any A5 8 c5 _ 6 call ca0 ca1 wo ob5).mono ?_); rintro e w9 ⟨A9, c9, rfl, ho9, hB9⟩); rw [H2.out] at ho9; exact ret_p (own_isW ho9 hsz) hB9)))) | (apply ObsK.b (by rfl); (intro wo hT; (repeat (first | (intro v hv; ((obtain ⟨A5, n5, c5, rfl, o5⟩ := hv; have u5 : n5 = 8 := (by rw [← o5.len]; rfl); subst u5; have ob5 := o5.bs))) | (intro _ _ k; try have hcv := cv k))); (have mc := (F4.below hT).cell; have bo := o4.below hT; have hsz : w4.heap.size ≤ wo.heap.size := hT.size); refine Goes.mk ?_; go_simp; first | exact goes_v | exact goes_b (by assumption) | (refine goes_enter ?_; first | (go_at_call 84; ((with_reducible refine (put16_any A4 8 c4 _ 4 z z0 z1 wo bo).mono ?_); rintro e w9 ⟨A9, c9, rfl, ho9, hB9⟩); rw [H1.out] at ho9; exact ret_p (own_isW ho9 hsz) hB9) | (go_at_call 84; ((with_reducible refine (put16_any A5 8 c5 _ 6 call ca0 ca1 wo ob5).mono ?_); rintro e w9 ⟨A9, c9, rfl, ho9, hB9⟩); rw [H2.out] at ho9; exact ret_p (own_isW ho9 hsz) hB9)))) | (apply ObsK.p (q := isW w4.heap.size _) (by rfl) st_isW; (intro wo hT; (repeat (first | (intro v hv; ((obtain ⟨A5, n5, c5, rfl, o5⟩ := hv; have u5 : n5 = 8 := (by rw [← o5.len]; rfl); subst u5; have ob5 := o5.bs))) | (intro _ _ k; try have hcv := cv k))); (have mc := (F4.below hT).cell; have bo := o4.below hT; have hsz : w4.heap.size ≤ wo.heap.size := hT.size); refine Goes.mk ?_; go_simp; first | exact goes_v | exact goes_b (by assumption) | (refine goes_enter ?_; first | (go_at_call 84; ((with_reducible refine (put16_any A4 8 c4 _ 4 z z0 z1 wo bo).mono ?_); rintro e w9 ⟨A9, c9, rfl, ho9, hB9⟩); rw [H1.out] at ho9; exact ret_p (own_isW ho9 hsz) hB9) | (go_at_call 84; ((with_reducible refine (put16_any A5 8 c5 _ 6 call ca0 ca1 wo ob5).mono ?_); rintro e w9 ⟨A9, c9, rfl, ho9, hB9⟩); rw [H2.out] at ho9; exact ret_p (own_isW ho9 hsz) hB9)))))); refine ObsK.nil ?_; intro wz hBz; simp only [finOn, List.drop_succ_cons, List.drop_zero, List.drop_nil]
  rintro v6 ⟨A6, n6, c6, rfl, O6⟩ v7 hv7
  clear hv7
  have u6 : n6 = 8 := by rw [← O6.len]; rfl
  subst u6
  go_simp
  have T6 := below_then T4 hBz
  have P6 := P1.below T6
  have F6 := F1.below T6
  have Z6 := Z1.below T6
  have x6 := x1.below T6
  have y6 := y1.below T6
  have mc6 := F6.cell
  have sz6 := hBz.size
  generalize wz = w6 at *
  clear hBz o4 O4 hrun hB4 G3 hw3 V3 T3 F4 hw1 mc T4
  go_wp2_with fail
  obtain ⟨g7, rfl, gl7, gh7⟩ := O6.ptr (by omega)
  have H7a : Hid (put32 ((grB true true ++ two z ++ two call) ++ [0, 0, 0, 0]) 8 seq = (grB true true ++ two z ++ two call) ++ four seq) := by unfold Hid; simp [put32, putK, two, four, grB]
  have sl7 : w1.heap.size ≤ g7 := by omega
  refine regionX 8 [2] g7 (fun c W => match c with | 0 => Own W w4.heap.size 5 (some ⟨g7, 0, none⟩) 8 c6 (grB true true ++ two z ++ two call) | _ + 1 => True) (by kernel_rfl) (by kernel_rfl) (by kernel_rfl) O6 (fun c W W' hj hb => by cases c with | zero => exact Own.below hj hb | succ n => trivial) ?_; (iterate 8 (first | (apply ObsX.skip (by rfl) (by rfl)) | (apply ObsX.v (by rfl) (by rfl); (intro wo hE; (repeat (first | (intro v hv; ((first | (obtain ⟨Aq, cq, rfl, oq, oq'⟩ := hv) | (obtain ⟨Ap, np, cp, rfl, op⟩ := hv; have up : np = 12 := (by rw [← op.len]; rfl); subst up; have obp := op.bs)))) | (intro _ _ k; try have hcv := cv k))); (have mc := (F6.ext hE (by omega)).cell; have hsz := hE.size; have glx := gh7); refine Goes.mk ?_; first | (exact goes_appX _ _ rfl rfl hj (fun k e => by simp [Value.ownBlock] at e; exact e.symm) rfl oq (by omega) (by omega) (fun _ => trivial)) | (go_simp; first | exact goes_v | exact goes_litN hl4 rfl (by omega) (by omega) | (refine goes_enter ?_; first | (go_at_call 85; ((with_reducible refine (put32_any Ap 12 cp _ 8 seq se0 se1 wo obp).mono ?_); rintro e w9 ⟨A9, c9, rfl, ho9, hB9⟩); rw [H7a.out] at ho9; exact ret_p (own_isW ho9 hsz) hB9))))) | (apply ObsX.p (q := isN g7 4 [0, 0, 0, 0]) (by rfl) (by rfl) st_isN sx_isN; (intro wo hE; (repeat (first | (intro v hv; ((first | (obtain ⟨Aq, cq, rfl, oq, oq'⟩ := hv) | (obtain ⟨Ap, np, cp, rfl, op⟩ := hv; have up : np = 12 := (by rw [← op.len]; rfl); subst up; have obp := op.bs)))) | (intro _ _ k; try have hcv := cv k))); (have mc := (F6.ext hE (by omega)).cell; have hsz := hE.size; have glx := gh7); refine Goes.mk ?_; first | (exact goes_appX _ _ rfl rfl hj (fun k e => by simp [Value.ownBlock] at e; exact e.symm) rfl oq (by omega) (by omega) (fun _ => trivial)) | (go_simp; first | exact goes_v | exact goes_litN hl4 rfl (by omega) (by omega) | (refine goes_enter ?_; first | (go_at_call 85; ((with_reducible refine (put32_any Ap 12 cp _ 8 seq se0 se1 wo obp).mono ?_); rintro e w9 ⟨A9, c9, rfl, ho9, hB9⟩); rw [H7a.out] at ho9; exact ret_p (own_isW ho9 hsz) hB9))))) | (apply ObsX.p (q := isW w6.heap.size _) (by rfl) (by rfl) st_isW (sx_isW gh7); (intro wo hE; (repeat (first | (intro v hv; ((first | (obtain ⟨Aq, cq, rfl, oq, oq'⟩ := hv) | (obtain ⟨Ap, np, cp, rfl, op⟩ := hv; have up : np = 12 := (by rw [← op.len]; rfl); subst up; have obp := op.bs)))) | (intro _ _ k; try have hcv := cv k))); (have mc := (F6.ext hE (by omega)).cell; have hsz := hE.size; have glx := gh7); refine Goes.mk ?_; first | (exact goes_appX _ _ rfl rfl hj (fun k e => by simp [Value.ownBlock] at e; exact e.symm) rfl oq (by omega) (by omega) (fun _ => trivial)) | (go_simp; first | exact goes_v | exact goes_litN hl4 rfl (by omega) (by omega) | (refine goes_enter ?_; first | (go_at_call 85; ((with_reducible refine (put32_any Ap 12 cp _ 8 seq se0 se1 wo obp).mono ?_); rintro e w9 ⟨A9, c9, rfl, ho9, hB9⟩); rw [H7a.out] at ho9; exact ret_p (own_isW ho9 hsz) hB9))))) | (apply ObsX.ev (by rfl) (by rfl); (intro wo hE hj; (repeat (first | (intro v hv; ((first | (obtain ⟨Aq, cq, rfl, oq, oq'⟩ := hv) | (obtain ⟨Ap, np, cp, rfl, op⟩ := hv; have up : np = 12 := (by rw [← op.len]; rfl); subst up; have obp := op.bs)))) | (intro _ _ k; try have hcv := cv k))); (have mc := (F6.ext hE (by omega)).cell; have hsz := hE.size; have glx := gh7); refine GoesX.mk ?_; first | (exact goes_appX _ _ rfl rfl hj (fun k e => by simp [Value.ownBlock] at e; exact e.symm) rfl oq (by omega) (by omega) (fun _ => trivial)) | (go_simp; first | exact goes_v | exact goes_litN hl4 rfl (by omega) (by omega) | (refine goes_enter ?_; first | (go_at_call 85; ((with_reducible refine (put32_any Ap 12 cp _ 8 seq se0 se1 wo obp).mono ?_); rintro e w9 ⟨A9, c9, rfl, ho9, hB9⟩); rw [H7a.out] at ho9; exact ret_p (own_isW ho9 hsz) hB9))))) | (apply ObsX.ep (q := isN g7 4 [0, 0, 0, 0]) (by rfl) (by rfl) (by rfl) st_isN; (intro wo hE hj; (repeat (first | (intro v hv; ((first | (obtain ⟨Aq, cq, rfl, oq, oq'⟩ := hv) | (obtain ⟨Ap, np, cp, rfl, op⟩ := hv; have up : np = 12 := (by rw [← op.len]; rfl); subst up; have obp := op.bs)))) | (intro _ _ k; try have hcv := cv k))); (have mc := (F6.ext hE (by omega)).cell; have hsz := hE.size; have glx := gh7); refine GoesX.mk ?_; first | (exact goes_appX _ _ rfl rfl hj (fun k e => by simp [Value.ownBlock] at e; exact e.symm) rfl oq (by omega) (by omega) (fun _ => trivial)) | (go_simp; first | exact goes_v | exact goes_litN hl4 rfl (by omega) (by omega) | (refine goes_enter ?_; first | (go_at_call 85; ((with_reducible refine (put32_any Ap 12 cp _ 8 seq se0 se1 wo obp).mono ?_); rintro e w9 ⟨A9, c9, rfl, ho9, hB9⟩); rw [H7a.out] at ho9; exact ret_p (own_isW ho9 hsz) hB9))))) | (apply ObsX.ep (q := isW w6.heap.size _) (by rfl) (by rfl) (by rfl) st_isW; (intro wo hE hj; (repeat (first | (intro v hv; ((first | (obtain ⟨Aq, cq, rfl, oq, oq'⟩ := hv) | (obtain ⟨Ap, np, cp, rfl, op⟩ := hv; have up : np = 12 := (by rw [← op.len]; rfl); subst up; have obp := op.bs)))) | (intro _ _ k; try have hcv := cv k))); (have mc := (F6.ext hE (by omega)).cell; have hsz := hE.size; have glx := gh7); refine GoesX.mk ?_; first | (exact goes_appX _ _ rfl rfl hj (fun k e => by simp [Value.ownBlock] at e; exact e.symm) rfl oq (by omega) (by omega) (fun _ => trivial)) | (go_simp; first | exact goes_v | exact goes_litN hl4 rfl (by omega) (by omega) | (refine goes_enter ?_; first | (go_at_call 85; ((with_reducible refine (put32_any Ap 12 cp _ 8 seq se0 se1 wo obp).mono ?_); rintro e w9 ⟨A9, c9, rfl, ho9, hB9⟩); rw [H7a.out] at ho9; exact ret_p (own_isW ho9 hsz) hB9))))) | (apply ObsX.ep (q := isW w4.heap.size _) (by rfl) (by rfl) (by rfl) st_isW; (intro wo hE hj; (repeat (first | (intro v hv; ((first | (obtain ⟨Aq, cq, rfl, oq, oq'⟩ := hv) | (obtain ⟨Ap, np, cp, rfl, op⟩ := hv; have up : np = 12 := (by rw [← op.len]; rfl); subst up; have obp := op.bs)))) | (intro _ _ k; try have hcv := cv k))); (have mc := (F6.ext hE (by omega)).cell; have hsz := hE.size; have glx := gh7); refine GoesX.mk ?_; first | (exact goes_appX _ _ rfl rfl hj (fun k e => by simp [Value.ownBlock] at e; exact e.symm) rfl oq (by omega) (by omega) (fun _ => trivial)) | (go_simp; first | exact goes_v | exact goes_litN hl4 rfl (by omega) (by omega) | (refine goes_enter ?_; first | (go_at_call 85; ((with_reducible refine (put32_any Ap 12 cp _ 8 seq se0 se1 wo obp).mono ?_); rintro e w9 ⟨A9, c9, rfl, ho9, hB9⟩); rw [H7a.out] at ho9; exact ret_p (own_isW ho9 hsz) hB9))))))); refine ObsX.nil ?_; intro wz hEz hJz; simp only [finOn, List.drop_succ_cons, List.drop_zero, List.drop_nil]
  rintro v1 ⟨A7, n7, c7, rfl, O7⟩ v2 hv2 v3 hv3
  clear hv2 hv3
  have u7 : n7 = 12 := by rw [← O7.len]; rfl
  subst u7
  go_simp
  have T7 := below_ext T6 hEz sl7 T6.size
  have P7 := P6.ext hEz (by omega)
  have F7 := F6.ext hEz (by omega)
  have Z7 := Z6.ext hEz (by omega)
  have x7 := x1.below T7
  have y7 := y1.below T7
  have mc7 := F7.cell
  have sz7 : w6.heap.size ≤ wz.heap.size := hEz.size
  generalize wz = w7 at *
  clear hEz hJz mc6 O6
  go_wp2_with fail
  obtain ⟨g8, rfl, gl8, gh8⟩ := O7.ptr (by omega)
  have H8a : Hid (put32 (((grB true true ++ two z ++ two call) ++ four seq) ++ [0, 0, 0, 0]) 12 ack = ((grB true true ++ two z ++ two call) ++ four seq) ++ four ack) := by unfold Hid; simp [put32, putK, two, four, grB]
  have sl8 : w1.heap.size ≤ g8 := by omega
  refine regionX 8 [2] g8 (fun c W => match c with | 0 => Own W w6.heap.size 5 (some ⟨g8, 0, none⟩) 12 c7 ((grB true true ++ two z ++ two call) ++ four seq) | _ + 1 => True) (by kernel_rfl) (by kernel_rfl) (by kernel_rfl) O7 (fun c W W' hj hb => by cases c with | zero => exact Own.below hj hb | succ n => trivial) ?_; (iterate 8 (first | (apply ObsX.skip (by rfl) (by rfl)) | (apply ObsX.v (by rfl) (by rfl); (intro wo hE; (repeat (first | (intro v hv; ((first | (obtain ⟨Aq, cq, rfl, oq, oq'⟩ := hv) | (obtain ⟨Ap, np, cp, rfl, op⟩ := hv; have up : np = 16 := (by rw [← op.len]; rfl); subst up; have obp := op.bs)))) | (intro _ _ k; try have hcv := cv k))); (have mc := (F7.ext hE (by omega)).cell; have hsz := hE.size; have glx := gh8); refine Goes.mk ?_; first | (exact goes_appX _ _ rfl rfl hj (fun k e => by simp [Value.ownBlock] at e; exact e.symm) rfl oq (by omega) (by omega) (fun _ => trivial)) | (go_simp; first | exact goes_v | exact goes_litN hl4 rfl (by omega) (by omega) | (refine goes_enter ?_; first | (go_at_call 85; ((with_reducible refine (put32_any Ap 16 cp _ 12 ack ak0 ak1 wo obp).mono ?_); rintro e w9 ⟨A9, c9, rfl, ho9, hB9⟩); rw [H8a.out] at ho9; exact ret_p (own_isW ho9 hsz) hB9))))) | (apply ObsX.p (q := isN g8 4 [0, 0, 0, 0]) (by rfl) (by rfl) st_isN sx_isN; (intro wo hE; (repeat (first | (intro v hv; ((first | (obtain ⟨Aq, cq, rfl, oq, oq'⟩ := hv) | (obtain ⟨Ap, np, cp, rfl, op⟩ := hv; have up : np = 16 := (by rw [← op.len]; rfl); subst up; have obp := op.bs)))) | (intro _ _ k; try have hcv := cv k))); (have mc := (F7.ext hE (by omega)).cell; have hsz := hE.size; have glx := gh8); refine Goes.mk ?_; first | (exact goes_appX _ _ rfl rfl hj (fun k e => by simp [Value.ownBlock] at e; exact e.symm) rfl oq (by omega) (by omega) (fun _ => trivial)) | (go_simp; first | exact goes_v | exact goes_litN hl4 rfl (by omega) (by omega) | (refine goes_enter ?_; first | (go_at_call 85; ((with_reducible refine (put32_any Ap 16 cp _ 12 ack ak0 ak1 wo obp).mono ?_); rintro e w9 ⟨A9, c9, rfl, ho9, hB9⟩); rw [H8a.out] at ho9; exact ret_p (own_isW ho9 hsz) hB9))))) | (apply ObsX.p (q := isW w7.heap.size _) (by rfl) (by rfl) st_isW (sx_isW gh8); (intro wo hE; (repeat (first | (intro v hv; ((first | (obtain ⟨Aq, cq, rfl, oq, oq'⟩ := hv) | (obtain ⟨Ap, np, cp, rfl, op⟩ := hv; have up : np = 16 := (by rw [← op.len]; rfl); subst up; have obp := op.bs)))) | (intro _ _ k; try have hcv := cv k))); (have mc := (F7.ext hE (by omega)).cell; have hsz := hE.size; have glx := gh8); refine Goes.mk ?_; first | (exact goes_appX _ _ rfl rfl hj (fun k e => by simp [Value.ownBlock] at e; exact e.symm) rfl oq (by omega) (by omega) (fun _ => trivial)) | (go_simp; first | exact goes_v | exact goes_litN hl4 rfl (by omega) (by omega) | (refine goes_enter ?_; first | (go_at_call 85; ((with_reducible refine (put32_any Ap 16 cp _ 12 ack ak0 ak1 wo obp).mono ?_); rintro e w9 ⟨A9, c9, rfl, ho9, hB9⟩); rw [H8a.out] at ho9; exact ret_p (own_isW ho9 hsz) hB9))))) | (apply ObsX.ev (by rfl) (by rfl); (intro wo hE hj; (repeat (first | (intro v hv; ((first | (obtain ⟨Aq, cq, rfl, oq, oq'⟩ := hv) | (obtain ⟨Ap, np, cp, rfl, op⟩ := hv; have up : np = 16 := (by rw [← op.len]; rfl); subst up; have obp := op.bs)))) | (intro _ _ k; try have hcv := cv k))); (have mc := (F7.ext hE (by omega)).cell; have hsz := hE.size; have glx := gh8); refine GoesX.mk ?_; first | (exact goes_appX _ _ rfl rfl hj (fun k e => by simp [Value.ownBlock] at e; exact e.symm) rfl oq (by omega) (by omega) (fun _ => trivial)) | (go_simp; first | exact goes_v | exact goes_litN hl4 rfl (by omega) (by omega) | (refine goes_enter ?_; first | (go_at_call 85; ((with_reducible refine (put32_any Ap 16 cp _ 12 ack ak0 ak1 wo obp).mono ?_); rintro e w9 ⟨A9, c9, rfl, ho9, hB9⟩); rw [H8a.out] at ho9; exact ret_p (own_isW ho9 hsz) hB9))))) | (apply ObsX.ep (q := isN g8 4 [0, 0, 0, 0]) (by rfl) (by rfl) (by rfl) st_isN; (intro wo hE hj; (repeat (first | (intro v hv; ((first | (obtain ⟨Aq, cq, rfl, oq, oq'⟩ := hv) | (obtain ⟨Ap, np, cp, rfl, op⟩ := hv; have up : np = 16 := (by rw [← op.len]; rfl); subst up; have obp := op.bs)))) | (intro _ _ k; try have hcv := cv k))); (have mc := (F7.ext hE (by omega)).cell; have hsz := hE.size; have glx := gh8); refine GoesX.mk ?_; first | (exact goes_appX _ _ rfl rfl hj (fun k e => by simp [Value.ownBlock] at e; exact e.symm) rfl oq (by omega) (by omega) (fun _ => trivial)) | (go_simp; first | exact goes_v | exact goes_litN hl4 rfl (by omega) (by omega) | (refine goes_enter ?_; first | (go_at_call 85; ((with_reducible refine (put32_any Ap 16 cp _ 12 ack ak0 ak1 wo obp).mono ?_); rintro e w9 ⟨A9, c9, rfl, ho9, hB9⟩); rw [H8a.out] at ho9; exact ret_p (own_isW ho9 hsz) hB9))))) | (apply ObsX.ep (q := isW w7.heap.size _) (by rfl) (by rfl) (by rfl) st_isW; (intro wo hE hj; (repeat (first | (intro v hv; ((first | (obtain ⟨Aq, cq, rfl, oq, oq'⟩ := hv) | (obtain ⟨Ap, np, cp, rfl, op⟩ := hv; have up : np = 16 := (by rw [← op.len]; rfl); subst up; have obp := op.bs)))) | (intro _ _ k; try have hcv := cv k))); (have mc := (F7.ext hE (by omega)).cell; have hsz := hE.size; have glx := gh8); refine GoesX.mk ?_; first | (exact goes_appX _ _ rfl rfl hj (fun k e => by simp [Value.ownBlock] at e; exact e.symm) rfl oq (by omega) (by omega) (fun _ => trivial)) | (go_simp; first | exact goes_v | exact goes_litN hl4 rfl (by omega) (by omega) | (refine goes_enter ?_; first | (go_at_call 85; ((with_reducible refine (put32_any Ap 16 cp _ 12 ack ak0 ak1 wo obp).mono ?_); rintro e w9 ⟨A9, c9, rfl, ho9, hB9⟩); rw [H8a.out] at ho9; exact ret_p (own_isW ho9 hsz) hB9))))) | (apply ObsX.ep (q := isW w6.heap.size _) (by rfl) (by rfl) (by rfl) st_isW; (intro wo hE hj; (repeat (first | (intro v hv; ((first | (obtain ⟨Aq, cq, rfl, oq, oq'⟩ := hv) | (obtain ⟨Ap, np, cp, rfl, op⟩ := hv; have up : np = 16 := (by rw [← op.len]; rfl); subst up; have obp := op.bs)))) | (intro _ _ k; try have hcv := cv k))); (have mc := (F7.ext hE (by omega)).cell; have hsz := hE.size; have glx := gh8); refine GoesX.mk ?_; first | (exact goes_appX _ _ rfl rfl hj (fun k e => by simp [Value.ownBlock] at e; exact e.symm) rfl oq (by omega) (by omega) (fun _ => trivial)) | (go_simp; first | exact goes_v | exact goes_litN hl4 rfl (by omega) (by omega) | (refine goes_enter ?_; first | (go_at_call 85; ((with_reducible refine (put32_any Ap 16 cp _ 12 ack ak0 ak1 wo obp).mono ?_); rintro e w9 ⟨A9, c9, rfl, ho9, hB9⟩); rw [H8a.out] at ho9; exact ret_p (own_isW ho9 hsz) hB9))))))); refine ObsX.nil ?_; intro wz hEz hJz; simp only [finOn, List.drop_succ_cons, List.drop_zero, List.drop_nil]
  rintro v1 ⟨A8, n8, c8, rfl, O8⟩ v2 hv2 v3 hv3
  clear hv2 hv3
  have u8 : n8 = 16 := by rw [← O8.len]; rfl
  subst u8
  go_simp
  have T8 := below_ext T7 hEz sl8 T7.size
  have P8 := P7.ext hEz (by omega)
  have F8 := F7.ext hEz (by omega)
  have Z8 := Z7.ext hEz (by omega)
  have x8 := x1.below T8
  have y8 := y1.below T8
  have mc8 := F8.cell
  have sz8 : w7.heap.size ≤ wz.heap.size := hEz.size
  generalize wz = w8 at *
  clear hEz hJz mc7 O7
  obtain ⟨w9, hw9⟩ : ∃ w9, w8.alloc (.cells #[.slice A8 16 c8, .slice B1 m1 d1] 24) = w9 := ⟨_, rfl⟩
  have G9 : Blk w9 w8.heap.size #[.slice A8 16 c8, .slice B1 m1 d1] 24 := by rw [← hw9]; exact blk_new w8 _ _ _ rfl
  have V9 : Below w8.heap.size w8 w9 := by rw [← hw9]; (repeat (first | with_reducible exact Below.refl _ _ | with_reducible refine below_drew ?_ | with_reducible refine below_drewN ?_ _ | with_reducible refine below_alloc ?_ (Nat.le_refl _) _ | with_reducible refine Below.setCell ?_ (by first | exact Nat.le_refl _ | (simp only []; omega)) _ | with_reducible assumption))
  have o8 := O8.bs
  have hcat := isCat2 G9 (o8.below V9) (y8.below V9) (cc := 2) (by omega)
  have T9 := below_then T8 V9
  have pc8 := P8.cell
  have s9 := (below_then R1 T9).size
  have kz : k + 1 + 1 < w9.heap.size := (Z8.below V9).lt
  go_wp2_with (go_at_call 86; ((with_reducible refine (hw2 w9 _ hcat (x8.below V9)).mono ?_); rintro e w10 ⟨⟨C1, e1, f1, C2, e2, f2, rfl, O1, O2, hB10⟩⟩); have T10 := below_then T9 hB10; have Z10 := Z1.below T10; have zc10 := Z10.cell)
  obtain ⟨wf, hwf, Sf⟩ := store9 Z10 (.int .u8 Q.tos) (.int .u16 Q.id) (.bool Q.keep) (.int .u8 Q.ttl) (.int .u8 Q.proto) (.int .u32 Q.src) (.int .u32 Q.dst) (.slice C1 e1 f1) (.slice C2 e2 f2)
  rw [hwf]
  have pf := Sf.blk.cell
  have Of := Sf.own O1 (fun a e => by have := O1.ge a e; omega)
  have Df := Sf.own O2 (fun a e => by have := O2.ge a e; omega)
  refine bodyPost_ret (v := .tuple #[(.agg #[.int .u8 (Q).tos, .int .u16 (Q).id, .bool (Q).keep, .int .u8 (Q).ttl, .int .u8 (Q).proto, .int .u32 (Q).src, .int .u32 (Q).dst, .slice C1 e1 f1, .slice C2 e2 f2]), .int .i64 E]) (by simp [results, Try.results74, go_sem, pf]) rfl ⟨⟨C1, e1, f1, C2, e2, f2, rfl, Of.mono s9, Df.mono s9, Sf.bel (below_then R1 T10) (by omega)⟩⟩
theorem bg_any (p : Pkt) (A1 : Option Addr) (n1 c1 : Nat) (A2 : Option Addr) (n2 c2 : Nat) (f : Frm) (hf : f.Ok) (B1 : Option Addr) (m1 d1 : Nat) (w : World) (k1 : Bs w A1 n1 c1 p.opt) (j1 : Bs w B1 m1 d1 f.dat) (hm1 : m1 ≤ 140737488400000) :
    Calls Try.prog 74 #[(.agg #[.int .u8 (p).tos, .int .u16 (p).id, .bool (p).keep, .int .u8 (p).ttl, .int .u8 (p).proto, .int .u32 (p).src, .int .u32 (p).dst, .slice A1 n1 c1, .slice A2 n2 c2]), (.agg #[.int .u16 (f).call, .bool (f).hs, .bool (f).ha, .int .u32 (f).seq, .int .u32 (f).ack, .slice B1 m1 d1])] w (WiPost w (bgP p f) (bgE p f)) := by
  cases hb : gBad f with
  | true =>
    unfold bgP bgE
    rw [hb, if_pos rfl, if_pos rfl]
    exact bg_bad p A1 n1 c1 A2 n2 c2 f B1 m1 d1 w k1 j1 hb
  | false =>
    have hw2 : ∀ W lv, isCat lv (gL f) W → Bs W A1 n1 c1 p.opt → Calls Try.prog 86 #[(.agg #[.int .u8 (p).tos, .int .u16 (p).id, .bool (p).keep, .int .u8 (p).ttl, .int .u8 (p).proto, .int .u32 (p).src, .int .u32 (p).dst, .slice A1 n1 c1, .slice A2 n2 c2]), .int .u8 47, lv] W (WiPost W (bgP p f) (bgE p f)) := fun W lv hc kk => by
      have hn : gN f ≤ 140737488400016 := by
        unfold gN; rw [j1.len]; split <;> split <;> omega
      have hh := with_any p A1 n1 c1 A2 n2 c2 47 lv (gL f) W kk hc (by rw [gL_len]; omega)
      unfold bgP bgE
      rw [hb, if_neg (by decide), if_neg (by decide)]
      rw [gL_len] at hh
      exact hh
    have jl := j1.len
    obtain ⟨call, hs, ha, seq, ack, dat⟩ := f
    simp only at jl
    subst jl
    obtain ⟨c0, s0, a0⟩ := hf
    cases hs <;> cases ha
    · have h1 : (seq != 0) = false ∧ (ack != 0) = false := by
        revert hb; unfold gBad; cases (seq != 0) <;> cases (ack != 0) <;> simp
      exact bg_ok00 p A1 n1 c1 A2 n2 c2 call c0 seq ack s0 a0 h1.1 h1.2 dat B1 _ d1 w k1 j1 _ _ (fun W lv hc kk => hw2 W lv (by simpa [gL, gH] using hc) kk) hm1
    · have h1 : (seq != 0) = false := by
        revert hb; unfold gBad; cases (seq != 0) <;> simp
      exact bg_ok01 p A1 n1 c1 A2 n2 c2 call c0 seq ack s0 a0 h1 dat B1 _ d1 w k1 j1 _ _ (fun W lv hc kk => hw2 W lv (by simpa [gL, gH] using hc) kk) hm1
    · have h1 : (ack != 0) = false := by
        revert hb; unfold gBad; cases (ack != 0) <;> simp
      exact bg_ok10 p A1 n1 c1 A2 n2 c2 call c0 seq ack s0 a0 h1 dat B1 _ d1 w k1 j1 _ _ (fun W lv hc kk => hw2 W lv (by simpa [gL, gH] using hc) kk) hm1
    · exact bg_ok11 p A1 n1 c1 A2 n2 c2 call c0 seq ack s0 a0 dat B1 _ d1 w k1 j1 _ _ (fun W lv hc kk => hw2 W lv (by simpa [gL, gH] using hc) kk) hm1
end Go.Proofs.Ythgoffbfgdgkpaa

/- The closure of ParseGre; what bytes say of a frame. -/
namespace Go.Proofs.Ythgoffbfgdgkpaa
open Go.RowKit
set_option linter.unusedVariables false
set_option linter.unusedSimpArgs false
set_option maxHeartbeats 4000000
set_option maxRecDepth 100000

/-- The next number of a frame. -/
theorem next_any (has : Bool) (gb ga : Nat) (A : Option Addr) (n c : Nat) (l : List UInt8) (v : Int) (v0 : 0 ≤ v) (v1 : v ≤ 100) (w : World) (K : Blk w gb #[.slice A n c] 24) (L : Blk w ga #[.int .i64 v] 3) (hne : gb ≠ ga) (hb : Bs w A n c l) :
    Calls Try.prog 83 #[.bool has, .pointer (some ⟨gb, 0, none⟩), .pointer (some ⟨ga, 0, none⟩)] w fun e w' => e = .returned (.int .u32 (if has then get32 l v else 0)) ∧ w.grownBy w' (some ga) ∧ Blk w' ga #[.int .i64 (if has then v + 4 else v)] 3 := by
  have kc := K.cell
  have lc := L.cell
  cases has with
  | false =>
    go_enter Try.func83, Try.ntmps83
    go_wp2_with fail
    go_ret
    exact ⟨rfl, ext_refl _ _, L⟩
  | true =>
    go_enter Try.func83, Try.ntmps83
    go_wp2_with (go_at_call 63; ((with_reducible refine (get32_any A n c l v _ hb).mono ?_); rintro e w1 ⟨rfl, hD⟩); have L1 := L.below hD.bel; have lc1 := L1.cell)
    go_ret
    refine ⟨rfl, ext_trans (ext_below hD.bel) (grownBy_setCell _ ⟨ga, 0, none⟩ _), ?_⟩
    have := L1.set_ 0 (.int .i64 (v + 4))
    simpa using this
def sB (l : List UInt8) : Bool := bt l 0 == 48
def aB (l : List UInt8) : Bool := bt l 1 == 129
def begB (l : List UInt8) : Bool := (bt l 0 == 32 || bt l 0 == 48) && (bt l 1 == 1 || bt l 1 == 129) && bt l 2 == 136 && bt l 3 == 11
def hdG (l : List UInt8) : Nat := 8 + (if sB l then 4 else 0) + (if aB l then 4 else 0)
def geE (p : Pkt) : Int := if p.proto ≠ 47 then 12 else if (p.dat.length : Int) < 8 then 3 else if begB p.dat = false then 4 else if (p.dat.length : Int) < hdG p.dat + get16 p.dat 4 then 3 else if hdG p.dat + get16 p.dat 4 < (p.dat.length : Int) then 4 else 0
def rdF (l : List UInt8) : Frm := ⟨get16 l 6, sB l, aB l, if sB l then get32 l 8 else 0, if aB l then get32 l (if sB l then 12 else 8) else 0, l.drop (hdG l)⟩
def geF (p : Pkt) : Frm := if geE p = 0 then rdF p.dat else zF
theorem rdF_ok (l : List UInt8) : (rdF l).Ok := by
  refine ⟨⟨get16_lo _ _, get16_hi _ _⟩, ?_, ?_⟩
  · show 0 ≤ (if sB l then get32 l 8 else 0) ∧ (if sB l then get32 l 8 else 0) ≤ 4294967295
    split
    · exact ⟨get32_lo _ _, get32_hi _ _⟩
    · exact ⟨by decide, by decide⟩
  · show 0 ≤ (if aB l then get32 l (if sB l then 12 else 8) else 0) ∧ (if aB l then get32 l (if sB l then 12 else 8) else 0) ≤ 4294967295
    split
    · exact ⟨get32_lo _ _, get32_hi _ _⟩
    · exact ⟨by decide, by decide⟩
theorem geF_ok (p : Pkt) : (geF p).Ok := by
  unfold geF; split
  · exact rdF_ok _
  · exact zF_ok
structure FrPost (w : World) (F : Frm) (E : Int) (e : Ending) (w' : World) : Prop where
  out : ∃ B m d, e = .returned (.tuple #[(.agg #[.int .u16 (F).call, .bool (F).hs, .bool (F).ha, .int .u32 (F).seq, .int .u32 (F).ack, .slice B m d]), .int .i64 E]) ∧ Own w' w.heap.size 5 B m d F.dat ∧ Below w.heap.size w w'
theorem frPost_no {w w' : World} {E : Int} (hB : Below w.heap.size w w') : FrPost w zF E (.returned (.tuple #[.agg #[.int .u16 0, .bool false, .bool false, .int .u32 0, .int .u32 0, .slice none 0 0], .int .i64 E])) w' :=
  ⟨none, 0, 0, rfl, own_nil _ _ _, hB⟩
/-! The program's flags. -/
def sW (l : List UInt8) : Bool := bits .and .u8 (bt l 0) 16 != 0
def aW (l : List UInt8) : Bool := bits .and .u8 (bt l 1) 128 != 0
def eqW (l : List UInt8) : Bool := bt l 0 == b0F (sW l) && bt l 1 == b1F (aW l) && bt l 2 == 136 && bt l 3 == 11
theorem s_tab : ∀ a : Fin 256, ((a.val : Int) == b0F (bits .and .u8 (a.val : Int) 16 != 0)) = ((a.val : Int) == 32 || (a.val : Int) == 48) ∧ (((a.val : Int) == 32 || (a.val : Int) == 48) = true → (bits .and .u8 (a.val : Int) 16 != 0) = ((a.val : Int) == 48)) := by decide +kernel
theorem a_tab : ∀ a : Fin 256, ((a.val : Int) == b1F (bits .and .u8 (a.val : Int) 128 != 0)) = ((a.val : Int) == 1 || (a.val : Int) == 129) ∧ (((a.val : Int) == 1 || (a.val : Int) == 129) = true → (bits .and .u8 (a.val : Int) 128 != 0) = ((a.val : Int) == 129)) := by decide +kernel
theorem eqW_begB (l : List UInt8) : eqW l = begB l ∧ (begB l = true → sW l = sB l ∧ aW l = aB l) := by
  have h0 := s_tab ⟨(bt l 0).toNat, by have := bt_lo l 0; have := bt_hi l 0; omega⟩
  have h1 := a_tab ⟨(bt l 1).toNat, by have := bt_lo l 1; have := bt_hi l 1; omega⟩
  have e0 : (((bt l 0).toNat : Nat) : Int) = bt l 0 := by have := bt_lo l 0; omega
  have e1 : (((bt l 1).toNat : Nat) : Int) = bt l 1 := by have := bt_lo l 1; omega
  simp only [e0] at h0
  simp only [e1] at h1
  constructor
  · unfold eqW begB sW aW
    rw [h0.1, h1.1]
  · intro h
    unfold begB at h
    simp only [Bool.and_eq_true] at h
    exact ⟨h0.2 h.1.1.1, h1.2 h.1.1.2⟩
theorem eq_first (l : List UInt8) (s a : Bool) (W : World) : (Op.equalIn 10000 120 (.agg #[.int .u8 (bt l 0), .int .u8 (bt l 1), .int .u8 (bt l 2), .int .u8 (bt l 3)]) (.agg #[.int .u8 (b0F s), .int .u8 (b1F a), .int .u8 136, .int .u8 11])).run Try.prog W =
    .ok (bt l 0 == b0F s && bt l 1 == b1F a && bt l 2 == 136 && bt l 3 == 11) W := by
  obtain ⟨i8, hi8, _, hs8, _⟩ := info_parts info_u8
  have := run_eq_ints (P := Try.prog) W 9998 120 5 .u8 4
    #[.int .u8 (bt l 0), .int .u8 (bt l 1), .int .u8 (bt l 2), .int .u8 (bt l 3)] #[.int .u8 (b0F s), .int .u8 (b1F a), .int .u8 136, .int .u8 11]
    (fun i => [bt l 0, bt l 1, bt l 2, bt l 3].getD i 0) (fun i => [b0F s, b1F a, 136, 11].getD i 0)
    Try.underlying120 Try.underlying5 hi8 hs8 (fun i hi => by
      match i, hi with
      | 0, _ | 1, _ | 2, _ | 3, _ => rfl) (fun i hi => by
      match i, hi with
      | 0, _ | 1, _ | 2, _ | 3, _ => rfl)
  refine this.trans ?_
  congr 1
  rw [Bool.eq_iff_iff]
  simp [List.range, List.range.loop, and_assoc]
end Go.Proofs.Ythgoffbfgdgkpaa

/- A packet's frame. -/
namespace Go.Proofs.Ythgoffbfgdgkpaa
open Go.RowKit
set_option linter.unusedVariables false
set_option linter.unusedSimpArgs false
set_option linter.unusedSimpArgs false
set_option maxHeartbeats 4000000
set_option maxRecDepth 100000

theorem gre_no (p : Pkt) (A1 : Option Addr) (n1 c1 : Nat) (A2 : Option Addr) (n2 c2 : Nat) (w : World) (k2 : Bs w A2 n2 c2 p.dat) (E : Int)
    (h : (E = 12 ∧ (p.proto != 47) = true) ∨ (E = 3 ∧ (p.proto != 47) = false ∧ (n2 : Int) < 8)) :
    Calls Try.prog 73 #[(.agg #[.int .u8 (p).tos, .int .u16 (p).id, .bool (p).keep, .int .u8 (p).ttl, .int .u8 (p).proto, .int .u32 (p).src, .int .u32 (p).dst, .slice A1 n1 c1, .slice A2 n2 c2])] w (FrPost w zF E) := by
  have b2 := k2.max
  obtain ⟨k, hk⟩ : ∃ k : Nat, w.heap.size = k := ⟨_, rfl⟩
  obtain ⟨w1, hw1⟩ : ∃ w1, (w.alloc (.cells #[.int .u8 (p).tos, .int .u16 (p).id, .bool (p).keep, .int .u8 (p).ttl, .int .u8 (p).proto, .int .u32 (p).src, .int .u32 (p).dst, .slice A1 n1 c1, .slice A2 n2 c2] 26)).alloc (.cells #[.int .u16 0, .bool false, .bool false, .int .u32 0, .int .u32 0, .slice none 0 0] 52) = w1 := ⟨_, rfl⟩
  have P1 : Blk w1 k #[.int .u8 (p).tos, .int .u16 (p).id, .bool (p).keep, .int .u8 (p).ttl, .int .u8 (p).proto, .int .u32 (p).src, .int .u32 (p).dst, .slice A1 n1 c1, .slice A2 n2 c2] 26 := by rw [← hw1]; exact (blk_new w _ _ k hk).alloc _
  have Z1 : Blk w1 (k + 1) #[.int .u16 0, .bool false, .bool false, .int .u32 0, .int .u32 0, .slice none 0 0] 52 := by rw [← hw1]; exact blk_new _ _ _ (k + 1) (by simp [hk])
  have R1 : Below w.heap.size w w1 := by rw [← hw1]; (repeat (first | with_reducible exact Below.refl _ _ | with_reducible refine below_drew ?_ | with_reducible refine below_drewN ?_ _ | with_reducible refine below_alloc ?_ (Nat.le_refl _) _ | with_reducible refine Below.setCell ?_ (by first | exact Nat.le_refl _ | (simp only []; omega)) _ | with_reducible assumption))
  have pc := P1.cell
  have zc := Z1.cell
  have kl1 := P1.lt
  have zl1 := Z1.lt
  obtain ⟨gb, hgb⟩ : ∃ gb : Nat, w1.heap.size = gb := ⟨_, rfl⟩
  obtain ⟨w2, hw2⟩ : ∃ w2, w1.alloc (.cells #[.slice A2 n2 c2] 24) = w2 := ⟨_, rfl⟩
  have K2 : Blk w2 gb #[.slice A2 n2 c2] 24 := by rw [← hw2]; exact blk_new w1 _ _ gb hgb
  have V2 : Below w1.heap.size w1 w2 := by rw [← hw2]; (repeat (first | with_reducible exact Below.refl _ _ | with_reducible refine below_drew ?_ | with_reducible refine below_drewN ?_ _ | with_reducible refine below_alloc ?_ (Nat.le_refl _) _ | with_reducible refine Below.setCell ?_ (by first | exact Nat.le_refl _ | (simp only []; omega)) _ | with_reducible assumption))
  have T2 := below_then R1 V2
  have P2 := P1.below V2
  have Z2 := Z1.below V2
  have pc2 := P2.cell
  have zc2 := Z2.cell
  have kc2 := K2.cell
  obtain ⟨wf, hwf, Sf⟩ := store6 Z2 (.int .u16 0) (.bool false) (.bool false) (.int .u32 0) (.int .u32 0) (.slice none 0 0)
  have pf := Sf.blk.cell
  have Tf := Sf.bel T2 (by omega)
  rcases h with ⟨rfl, h1⟩ | ⟨rfl, h1, h2⟩
  all_goals go_enter Try.func73, Try.ntmps73
  all_goals go_wp2_with fail
  all_goals exact bodyPost_ret (by simp [results, Try.results73, go_sem, pf]) rfl (frPost_no Tf)
theorem gre_form (p : Pkt) (A1 : Option Addr) (n1 c1 : Nat) (A2 : Option Addr) (n2 c2 : Nat) (w : World) (k2 : Bs w A2 n2 c2 p.dat) (h1 : (p.proto != 47) = false) (h2 : 8 ≤ (n2 : Int)) (HH : eqW p.dat = false) :
    Calls Try.prog 73 #[(.agg #[.int .u8 (p).tos, .int .u16 (p).id, .bool (p).keep, .int .u8 (p).ttl, .int .u8 (p).proto, .int .u32 (p).src, .int .u32 (p).dst, .slice A1 n1 c1, .slice A2 n2 c2])] w (FrPost w zF 4) := by
  have b2 := k2.max
  have hcap := k2.cap
  have hlL : p.dat.take n2 = p.dat := List.take_of_length_le (by rw [k2.len]; exact Nat.le_refl _)
  obtain ⟨i8, hi8, -, hs8, -⟩ := info_parts info_u8
  obtain ⟨b, off, rfl⟩ := k2.some_ (by omega)
  have hcut4 : ∀ W, (Instr.slice 24 (.slice (some ⟨b, off, none⟩) n2 c2) none (some (.int .i64 4)) none).run Try.prog W = .ok (.slice (some ⟨b, off, none⟩) 4 c2) W := fun W => by
    rw [cut_h Try.underlying24 hi8 hs8 (some ⟨b, off, none⟩) n2 c2 .i64 4 (by omega) (by omega) W]; simp [Addr.add]
  have harr : ∀ W, (Instr.arrayAt 120 (.slice (some ⟨b, off, none⟩) 4 c2)).run Try.prog W = .ok (.pointer (some ⟨b, off, none⟩)) W := by
    intro W
    simp [Instr.arrayAt, run_underlying Try.underlying120, Result.andThen]
  obtain ⟨l, hl⟩ : ∃ l, p.dat = l := ⟨_, rfl⟩
  rw [hl] at k2 hlL HH
  obtain ⟨s, hs⟩ : ∃ s, (bits .and .u8 (bt l 0) 16 != 0) = s := ⟨_, rfl⟩
  obtain ⟨a, ha⟩ : ∃ a, (bits .and .u8 (bt l 1) 128 != 0) = a := ⟨_, rfl⟩
  obtain ⟨ev, hev⟩ : ∃ ev, (bt l 0 == b0F s && bt l 1 == b1F a && bt l 2 == 136 && bt l 3 == 11) = ev := ⟨_, rfl⟩
  have heq := eq_first l s a
  rw [hev] at heq
  have hle : eqW l = ev := by unfold eqW sW aW; rw [hs, ha, hev]
  have q0 : 0 < n2 := by omega
  have q0' : (0 : Int) < n2 := by omega
  have q1 : (1 : Int) < n2 := by omega
  have g40 := get16_lo l 4
  have g41 := get16_hi l 4
  obtain ⟨nn, hnn⟩ : ∃ nn, get16 l 4 = nn := ⟨_, rfl⟩
  rw [hnn] at g40 g41
  have HLL := Lib.hid hl
  clear hl
  have HNN := Lib.hid hnn
  have HEV := Lib.hid hev
  have HLE := Lib.hid hle
  clear hev hle hnn
  obtain ⟨k, hk⟩ : ∃ k : Nat, w.heap.size = k := ⟨_, rfl⟩
  obtain ⟨w1, hw1⟩ : ∃ w1, (w.alloc (.cells #[.int .u8 (p).tos, .int .u16 (p).id, .bool (p).keep, .int .u8 (p).ttl, .int .u8 (p).proto, .int .u32 (p).src, .int .u32 (p).dst, .slice A1 n1 c1, .slice (some ⟨b, off, none⟩) n2 c2] 26)).alloc (.cells #[.int .u16 0, .bool false, .bool false, .int .u32 0, .int .u32 0, .slice none 0 0] 52) = w1 := ⟨_, rfl⟩
  have P1 : Blk w1 k #[.int .u8 (p).tos, .int .u16 (p).id, .bool (p).keep, .int .u8 (p).ttl, .int .u8 (p).proto, .int .u32 (p).src, .int .u32 (p).dst, .slice A1 n1 c1, .slice (some ⟨b, off, none⟩) n2 c2] 26 := by rw [← hw1]; exact (blk_new w _ _ k hk).alloc _
  have Z1 : Blk w1 (k + 1) #[.int .u16 0, .bool false, .bool false, .int .u32 0, .int .u32 0, .slice none 0 0] 52 := by rw [← hw1]; exact blk_new _ _ _ (k + 1) (by simp [hk])
  have R1 : Below w.heap.size w w1 := by rw [← hw1]; (repeat (first | with_reducible exact Below.refl _ _ | with_reducible refine below_drew ?_ | with_reducible refine below_drewN ?_ _ | with_reducible refine below_alloc ?_ (Nat.le_refl _) _ | with_reducible refine Below.setCell ?_ (by first | exact Nat.le_refl _ | (simp only []; omega)) _ | with_reducible assumption))
  have pc := P1.cell
  have zc := Z1.cell
  have kl1 := P1.lt
  have zl1 := Z1.lt
  obtain ⟨gb, hgb⟩ : ∃ gb : Nat, w1.heap.size = gb := ⟨_, rfl⟩
  obtain ⟨w2, hw2⟩ : ∃ w2, w1.alloc (.cells #[.slice (some ⟨b, off, none⟩) n2 c2] 24) = w2 := ⟨_, rfl⟩
  have K2 : Blk w2 gb #[.slice (some ⟨b, off, none⟩) n2 c2] 24 := by rw [← hw2]; exact blk_new w1 _ _ gb hgb
  have V2 : Below w1.heap.size w1 w2 := by rw [← hw2]; (repeat (first | with_reducible exact Below.refl _ _ | with_reducible refine below_drew ?_ | with_reducible refine below_drewN ?_ _ | with_reducible refine below_alloc ?_ (Nat.le_refl _) _ | with_reducible refine Below.setCell ?_ (by first | exact Nat.le_refl _ | (simp only []; omega)) _ | with_reducible assumption))
  have T2 := below_then R1 V2
  have P2 := P1.below V2
  have Z2 := Z1.below V2
  have pc2 := P2.cell
  have zc2 := Z2.cell
  have kc2 := K2.cell
  have x2 := k2.below T2
  go_enter Try.func73, Try.ntmps73
  go_wp2_with fail
  refine region_txt 14 (by kernel_rfl) (by kernel_rfl) ?_; (iterate 14 (first | (apply ObsK.skip (by rfl)) | (apply ObsK.v (by rfl); (intro wo hT; (repeat (first | (intro v hv; (fail)) | (intro _ _ k; try have hcv := cv k))); (have kc := (K2.below hT).cell; have bo := x2.below hT; have c0 := bo.at_ (j := 0) (by omega); rw [Nat.add_zero] at c0; have c1 := bo.at_ (j := 1) (by omega); have hsz : w2.heap.size ≤ wo.heap.size := hT.size); refine Goes.mk ?_; go_simp; first | exact goes_v | exact goes_b (by assumption) | exact goes_new hsz | (refine goes_enter ?_; first | (go_at_call 47; ((with_reducible refine (get16_any (some ⟨b, off, none⟩) n2 c2 l 6 wo bo).mono ?_); rintro e w5 ⟨rfl, hD5⟩); exact ret_v hD5.bel)))) | (apply ObsK.b (by rfl); (intro wo hT; (repeat (first | (intro v hv; (fail)) | (intro _ _ k; try have hcv := cv k))); (have kc := (K2.below hT).cell; have bo := x2.below hT; have c0 := bo.at_ (j := 0) (by omega); rw [Nat.add_zero] at c0; have c1 := bo.at_ (j := 1) (by omega); have hsz : w2.heap.size ≤ wo.heap.size := hT.size); refine Goes.mk ?_; go_simp; first | exact goes_v | exact goes_b (by assumption) | exact goes_new hsz | (refine goes_enter ?_; first | (go_at_call 47; ((with_reducible refine (get16_any (some ⟨b, off, none⟩) n2 c2 l 6 wo bo).mono ?_); rintro e w5 ⟨rfl, hD5⟩); exact ret_v hD5.bel)))) | (apply ObsK.p (q := isNew w2.heap.size _ _) (by rfl) st_isNew; (intro wo hT; (repeat (first | (intro v hv; (fail)) | (intro _ _ k; try have hcv := cv k))); (have kc := (K2.below hT).cell; have bo := x2.below hT; have c0 := bo.at_ (j := 0) (by omega); rw [Nat.add_zero] at c0; have c1 := bo.at_ (j := 1) (by omega); have hsz : w2.heap.size ≤ wo.heap.size := hT.size); refine Goes.mk ?_; go_simp; first | exact goes_v | exact goes_b (by assumption) | exact goes_new hsz | (refine goes_enter ?_; first | (go_at_call 47; ((with_reducible refine (get16_any (some ⟨b, off, none⟩) n2 c2 l 6 wo bo).mono ?_); rintro e w5 ⟨rfl, hD5⟩); exact ret_v hD5.bel)))))); refine ObsK.nil ?_; intro wz hBz; simp only [finOn, List.drop_succ_cons, List.drop_zero, List.drop_nil]
  rintro vp ⟨gf, rfl, gfB, G⟩
  go_simp
  obtain ⟨w4, hw4, S4⟩ := store6 G (.int .u16 (get16 l 6)) (.bool s) (.bool a) (.int .u32 0) (.int .u32 0) (.slice none 0 0)
  have gc0 := G.cell
  have zl2 := Z2.lt
  have kl2 := K2.lt
  have kk : w.heap.size ≤ w2.heap.size := T2.size
  have F4 := S4.blk
  have Z4 := S4.other (by omega) (Z2.below hBz)
  have K4 := S4.other (by omega) (K2.below hBz)
  have T4 := S4.bel (below_then T2 hBz) (by omega)
  have x4 := k2.below T4
  go_wp2_with fail
  have hgbk : k + 1 < gb := by omega
  clear hw4 S4 gc0 G hBz pc zc pc2 zc2 kc2 hw1 hw2 hgb P2 P1
  refine region_txt 10 (by kernel_rfl) (by kernel_rfl) ?_; (iterate 10 (first | (apply ObsK.skip (by rfl)) | (apply ObsK.v (by rfl); (intro wo hT; (repeat (first | (intro _ _ k; try have hcv := cv k))); (have kc := (K4.below hT).cell; have fc := (F4.below hT).cell; have bo := x4.below hT; have c0 := bo.at_ (j := 0) (by omega); rw [Nat.add_zero] at c0; have c1 := bo.at_ (j := 1) (by omega); have c2' := bo.at_ (j := 2) (by omega); have c3 := bo.at_ (j := 3) (by omega)); refine Goes.mk ?_; go_simp; first | exact goes_v | exact goes_b (by assumption) | (refine goes_enter ?_; first | (go_at_call 82; ((with_reducible refine (begin_any s a wo).mono ?_); rintro e w5 ⟨rfl, hB5⟩); exact ret_v hB5)))) | (apply ObsK.b (by rfl); (intro wo hT; (repeat (first | (intro _ _ k; try have hcv := cv k))); (have kc := (K4.below hT).cell; have fc := (F4.below hT).cell; have bo := x4.below hT; have c0 := bo.at_ (j := 0) (by omega); rw [Nat.add_zero] at c0; have c1 := bo.at_ (j := 1) (by omega); have c2' := bo.at_ (j := 2) (by omega); have c3 := bo.at_ (j := 3) (by omega)); refine Goes.mk ?_; go_simp; first | exact goes_v | exact goes_b (by assumption) | (refine goes_enter ?_; first | (go_at_call 82; ((with_reducible refine (begin_any s a wo).mono ?_); rintro e w5 ⟨rfl, hB5⟩); exact ret_v hB5)))))); refine ObsK.nil ?_; intro wz hBz; simp only [finOn, List.drop_succ_cons, List.drop_zero, List.drop_nil]
  go_simp
  have F5 := F4.below hBz
  have Z5 := Z4.below hBz
  have K5 := K4.below hBz
  have T5 := below_then T4 hBz
  have x5 := k2.below T5
  have zc5 := Z5.cell
  have sz5 := hBz.size
  have zl4 := Z4.lt
  generalize wz = w5 at *
  clear hBz heq harr hcut4
  have hevf : ev = false := by rw [← HLE.out]; exact HH
  subst hevf
  go_wp2_with fail
  obtain ⟨wf, hwf, Sf⟩ := store6 Z5 (.int .u16 0) (.bool false) (.bool false) (.int .u32 0) (.int .u32 0) (.slice none 0 0)
  rw [hwf]
  have pf := Sf.blk.cell
  exact bodyPost_ret (by simp [results, Try.results73, go_sem, pf]) rfl (frPost_no (Sf.bel T5 (by omega)))
theorem gre_yes (p : Pkt) (A1 : Option Addr) (n1 c1 : Nat) (A2 : Option Addr) (n2 c2 : Nat) (w : World) (k2 : Bs w A2 n2 c2 p.dat) (h1 : (p.proto != 47) = false) (h2 : 8 ≤ (n2 : Int)) (HH : eqW p.dat = true) :
    Calls Try.prog 73 #[(.agg #[.int .u8 (p).tos, .int .u16 (p).id, .bool (p).keep, .int .u8 (p).ttl, .int .u8 (p).proto, .int .u32 (p).src, .int .u32 (p).dst, .slice A1 n1 c1, .slice A2 n2 c2])] w (FrPost w (geF p) (geE p)) := by
  have b2 := k2.max
  have hcap := k2.cap
  have hlL : p.dat.take n2 = p.dat := List.take_of_length_le (by rw [k2.len]; exact Nat.le_refl _)
  obtain ⟨i8, hi8, -, hs8, -⟩ := info_parts info_u8
  obtain ⟨b, off, rfl⟩ := k2.some_ (by omega)
  have hcut4 : ∀ W, (Instr.slice 24 (.slice (some ⟨b, off, none⟩) n2 c2) none (some (.int .i64 4)) none).run Try.prog W = .ok (.slice (some ⟨b, off, none⟩) 4 c2) W := fun W => by
    rw [cut_h Try.underlying24 hi8 hs8 (some ⟨b, off, none⟩) n2 c2 .i64 4 (by omega) (by omega) W]; simp [Addr.add]
  have harr : ∀ W, (Instr.arrayAt 120 (.slice (some ⟨b, off, none⟩) 4 c2)).run Try.prog W = .ok (.pointer (some ⟨b, off, none⟩)) W := by
    intro W
    simp [Instr.arrayAt, run_underlying Try.underlying120, Result.andThen]
  obtain ⟨l, hl⟩ : ∃ l, p.dat = l := ⟨_, rfl⟩
  rw [hl] at k2 hlL HH
  obtain ⟨s, hs⟩ : ∃ s, (bits .and .u8 (bt l 0) 16 != 0) = s := ⟨_, rfl⟩
  obtain ⟨a, ha⟩ : ∃ a, (bits .and .u8 (bt l 1) 128 != 0) = a := ⟨_, rfl⟩
  obtain ⟨ev, hev⟩ : ∃ ev, (bt l 0 == b0F s && bt l 1 == b1F a && bt l 2 == 136 && bt l 3 == 11) = ev := ⟨_, rfl⟩
  have heq := eq_first l s a
  rw [hev] at heq
  have hle : eqW l = ev := by unfold eqW sW aW; rw [hs, ha, hev]
  have q0 : 0 < n2 := by omega
  have q0' : (0 : Int) < n2 := by omega
  have q1 : (1 : Int) < n2 := by omega
  have g40 := get16_lo l 4
  have g41 := get16_hi l 4
  obtain ⟨nn, hnn⟩ : ∃ nn, get16 l 4 = nn := ⟨_, rfl⟩
  rw [hnn] at g40 g41
  have HLL := Lib.hid hl
  clear hl
  have HNN := Lib.hid hnn
  have HEV := Lib.hid hev
  have HLE := Lib.hid hle
  clear hev hle hnn
  obtain ⟨k, hk⟩ : ∃ k : Nat, w.heap.size = k := ⟨_, rfl⟩
  obtain ⟨w1, hw1⟩ : ∃ w1, (w.alloc (.cells #[.int .u8 (p).tos, .int .u16 (p).id, .bool (p).keep, .int .u8 (p).ttl, .int .u8 (p).proto, .int .u32 (p).src, .int .u32 (p).dst, .slice A1 n1 c1, .slice (some ⟨b, off, none⟩) n2 c2] 26)).alloc (.cells #[.int .u16 0, .bool false, .bool false, .int .u32 0, .int .u32 0, .slice none 0 0] 52) = w1 := ⟨_, rfl⟩
  have P1 : Blk w1 k #[.int .u8 (p).tos, .int .u16 (p).id, .bool (p).keep, .int .u8 (p).ttl, .int .u8 (p).proto, .int .u32 (p).src, .int .u32 (p).dst, .slice A1 n1 c1, .slice (some ⟨b, off, none⟩) n2 c2] 26 := by rw [← hw1]; exact (blk_new w _ _ k hk).alloc _
  have Z1 : Blk w1 (k + 1) #[.int .u16 0, .bool false, .bool false, .int .u32 0, .int .u32 0, .slice none 0 0] 52 := by rw [← hw1]; exact blk_new _ _ _ (k + 1) (by simp [hk])
  have R1 : Below w.heap.size w w1 := by rw [← hw1]; (repeat (first | with_reducible exact Below.refl _ _ | with_reducible refine below_drew ?_ | with_reducible refine below_drewN ?_ _ | with_reducible refine below_alloc ?_ (Nat.le_refl _) _ | with_reducible refine Below.setCell ?_ (by first | exact Nat.le_refl _ | (simp only []; omega)) _ | with_reducible assumption))
  have pc := P1.cell
  have zc := Z1.cell
  have kl1 := P1.lt
  have zl1 := Z1.lt
  obtain ⟨gb, hgb⟩ : ∃ gb : Nat, w1.heap.size = gb := ⟨_, rfl⟩
  obtain ⟨w2, hw2⟩ : ∃ w2, w1.alloc (.cells #[.slice (some ⟨b, off, none⟩) n2 c2] 24) = w2 := ⟨_, rfl⟩
  have K2 : Blk w2 gb #[.slice (some ⟨b, off, none⟩) n2 c2] 24 := by rw [← hw2]; exact blk_new w1 _ _ gb hgb
  have V2 : Below w1.heap.size w1 w2 := by rw [← hw2]; (repeat (first | with_reducible exact Below.refl _ _ | with_reducible refine below_drew ?_ | with_reducible refine below_drewN ?_ _ | with_reducible refine below_alloc ?_ (Nat.le_refl _) _ | with_reducible refine Below.setCell ?_ (by first | exact Nat.le_refl _ | (simp only []; omega)) _ | with_reducible assumption))
  have T2 := below_then R1 V2
  have P2 := P1.below V2
  have Z2 := Z1.below V2
  have pc2 := P2.cell
  have zc2 := Z2.cell
  have kc2 := K2.cell
  have x2 := k2.below T2
  go_enter Try.func73, Try.ntmps73
  go_wp2_with fail
  refine region_txt 14 (by kernel_rfl) (by kernel_rfl) ?_; (iterate 14 (first | (apply ObsK.skip (by rfl)) | (apply ObsK.v (by rfl); (intro wo hT; (repeat (first | (intro v hv; (fail)) | (intro _ _ k; try have hcv := cv k))); (have kc := (K2.below hT).cell; have bo := x2.below hT; have c0 := bo.at_ (j := 0) (by omega); rw [Nat.add_zero] at c0; have c1 := bo.at_ (j := 1) (by omega); have hsz : w2.heap.size ≤ wo.heap.size := hT.size); refine Goes.mk ?_; go_simp; first | exact goes_v | exact goes_b (by assumption) | exact goes_new hsz | (refine goes_enter ?_; first | (go_at_call 47; ((with_reducible refine (get16_any (some ⟨b, off, none⟩) n2 c2 l 6 wo bo).mono ?_); rintro e w5 ⟨rfl, hD5⟩); exact ret_v hD5.bel)))) | (apply ObsK.b (by rfl); (intro wo hT; (repeat (first | (intro v hv; (fail)) | (intro _ _ k; try have hcv := cv k))); (have kc := (K2.below hT).cell; have bo := x2.below hT; have c0 := bo.at_ (j := 0) (by omega); rw [Nat.add_zero] at c0; have c1 := bo.at_ (j := 1) (by omega); have hsz : w2.heap.size ≤ wo.heap.size := hT.size); refine Goes.mk ?_; go_simp; first | exact goes_v | exact goes_b (by assumption) | exact goes_new hsz | (refine goes_enter ?_; first | (go_at_call 47; ((with_reducible refine (get16_any (some ⟨b, off, none⟩) n2 c2 l 6 wo bo).mono ?_); rintro e w5 ⟨rfl, hD5⟩); exact ret_v hD5.bel)))) | (apply ObsK.p (q := isNew w2.heap.size _ _) (by rfl) st_isNew; (intro wo hT; (repeat (first | (intro v hv; (fail)) | (intro _ _ k; try have hcv := cv k))); (have kc := (K2.below hT).cell; have bo := x2.below hT; have c0 := bo.at_ (j := 0) (by omega); rw [Nat.add_zero] at c0; have c1 := bo.at_ (j := 1) (by omega); have hsz : w2.heap.size ≤ wo.heap.size := hT.size); refine Goes.mk ?_; go_simp; first | exact goes_v | exact goes_b (by assumption) | exact goes_new hsz | (refine goes_enter ?_; first | (go_at_call 47; ((with_reducible refine (get16_any (some ⟨b, off, none⟩) n2 c2 l 6 wo bo).mono ?_); rintro e w5 ⟨rfl, hD5⟩); exact ret_v hD5.bel)))))); refine ObsK.nil ?_; intro wz hBz; simp only [finOn, List.drop_succ_cons, List.drop_zero, List.drop_nil]
  rintro vp ⟨gf, rfl, gfB, G⟩
  go_simp
  obtain ⟨w4, hw4, S4⟩ := store6 G (.int .u16 (get16 l 6)) (.bool s) (.bool a) (.int .u32 0) (.int .u32 0) (.slice none 0 0)
  have gc0 := G.cell
  have zl2 := Z2.lt
  have kl2 := K2.lt
  have kk : w.heap.size ≤ w2.heap.size := T2.size
  have F4 := S4.blk
  have Z4 := S4.other (by omega) (Z2.below hBz)
  have K4 := S4.other (by omega) (K2.below hBz)
  have T4 := S4.bel (below_then T2 hBz) (by omega)
  have x4 := k2.below T4
  go_wp2_with fail
  have hgbk : k + 1 < gb := by omega
  clear hw4 S4 gc0 G hBz pc zc pc2 zc2 kc2 hw1 hw2 hgb P2 P1
  refine region_txt 10 (by kernel_rfl) (by kernel_rfl) ?_; (iterate 10 (first | (apply ObsK.skip (by rfl)) | (apply ObsK.v (by rfl); (intro wo hT; (repeat (first | (intro _ _ k; try have hcv := cv k))); (have kc := (K4.below hT).cell; have fc := (F4.below hT).cell; have bo := x4.below hT; have c0 := bo.at_ (j := 0) (by omega); rw [Nat.add_zero] at c0; have c1 := bo.at_ (j := 1) (by omega); have c2' := bo.at_ (j := 2) (by omega); have c3 := bo.at_ (j := 3) (by omega)); refine Goes.mk ?_; go_simp; first | exact goes_v | exact goes_b (by assumption) | (refine goes_enter ?_; first | (go_at_call 82; ((with_reducible refine (begin_any s a wo).mono ?_); rintro e w5 ⟨rfl, hB5⟩); exact ret_v hB5)))) | (apply ObsK.b (by rfl); (intro wo hT; (repeat (first | (intro _ _ k; try have hcv := cv k))); (have kc := (K4.below hT).cell; have fc := (F4.below hT).cell; have bo := x4.below hT; have c0 := bo.at_ (j := 0) (by omega); rw [Nat.add_zero] at c0; have c1 := bo.at_ (j := 1) (by omega); have c2' := bo.at_ (j := 2) (by omega); have c3 := bo.at_ (j := 3) (by omega)); refine Goes.mk ?_; go_simp; first | exact goes_v | exact goes_b (by assumption) | (refine goes_enter ?_; first | (go_at_call 82; ((with_reducible refine (begin_any s a wo).mono ?_); rintro e w5 ⟨rfl, hB5⟩); exact ret_v hB5)))))); refine ObsK.nil ?_; intro wz hBz; simp only [finOn, List.drop_succ_cons, List.drop_zero, List.drop_nil]
  go_simp
  have F5 := F4.below hBz
  have Z5 := Z4.below hBz
  have K5 := K4.below hBz
  have T5 := below_then T4 hBz
  have x5 := k2.below T5
  have zc5 := Z5.cell
  have sz5 := hBz.size
  have zl4 := Z4.lt
  generalize wz = w5 at *
  clear hBz heq harr hcut4
  have hevf : ev = true := by rw [← HLE.out]; exact HH
  subst hevf
  obtain ⟨a1, ha1⟩ : ∃ a1 : Int, (if s = true then (8 : Int) + 4 else 8) = a1 := ⟨_, rfl⟩
  have hHd : (if a = true then a1 + 4 else a1) = (hdG l : Int) := by
    have hb := eqW_begB l
    have hbb : begB l = true := by rw [← hb.1]; exact HH
    have hsa := hb.2 hbb
    have es : s = sB l := by rw [← hsa.1]; exact hs.symm
    have ea : a = aB l := by rw [← hsa.2]; exact ha.symm
    unfold hdG
    rw [← ha1, es, ea]
    cases sB l <;> cases aB l <;> rfl
  obtain ⟨H, hH⟩ : ∃ H : Nat, hdG l = H := ⟨_, rfl⟩
  have HRd : Hid (rdF l = ⟨get16 l 6, s, a, (if s = true then get32 l 8 else 0), (if a = true then get32 l a1 else 0), l.drop H⟩) := by
    have hb := eqW_begB l
    have hbb : begB l = true := by rw [← hb.1]; exact HH
    have hsa := hb.2 hbb
    have es : s = sB l := by rw [← hsa.1]; exact hs.symm
    have ea : a = aB l := by rw [← hsa.2]; exact ha.symm
    unfold Hid rdF
    rw [hH, ← ha1, es, ea]
    cases sB l <;> cases aB l <;> rfl
  have HE3 : Hid ((n2 : Int) < (H : Int) + nn → geF p = zF ∧ geE p = 3) := fun h => by
    have e : geE p = 3 := by
      unfold geE
      rw [if_neg (by simpa using h1), HLL.out, k2.len, if_neg (by omega), if_neg (by rw [← (eqW_begB l).1, HH]; decide), hH, HNN.out, if_pos h]
    exact ⟨by unfold geF; rw [e, if_neg (by decide)], e⟩
  have HE4 : Hid ((H : Int) + nn < (n2 : Int) → geF p = zF ∧ geE p = 4) := fun h => by
    have e : geE p = 4 := by
      unfold geE
      rw [if_neg (by simpa using h1), HLL.out, k2.len, if_neg (by omega), if_neg (by rw [← (eqW_begB l).1, HH]; decide), hH, HNN.out, if_neg (by omega), if_pos h]
    exact ⟨by unfold geF; rw [e, if_neg (by decide)], e⟩
  have HE0 : Hid ((H : Int) + nn = (n2 : Int) → geF p = rdF l ∧ geE p = 0) := fun h => by
    have e : geE p = 0 := by
      unfold geE
      rw [if_neg (by simpa using h1), HLL.out, k2.len, if_neg (by omega), if_neg (by rw [← (eqW_begB l).1, HH]; decide), hH, HNN.out, if_neg (by omega), if_neg (by omega)]
    exact ⟨by unfold geF; rw [e, if_pos rfl, HLL.out], e⟩
  have a10 : 8 ≤ a1 ∧ a1 ≤ 12 := by rw [← ha1]; split <;> omega
  have a20 : 8 ≤ (H : Int) ∧ (H : Int) ≤ 16 := by rw [← hH, ← hHd]; split <;> omega
  obtain ⟨a10, a11⟩ := a10
  obtain ⟨a20, a21⟩ := a20
  rw [hH] at hHd
  obtain ⟨sq, hsq⟩ : ∃ sq : Int, (if s = true then get32 l 8 else 0) = sq := ⟨_, rfl⟩
  obtain ⟨ak, hak⟩ : ∃ ak : Int, (if a = true then get32 l a1 else 0) = ak := ⟨_, rfl⟩
  have N1 : ∀ W, Blk W gb #[.slice (some ⟨b, off, none⟩) n2 c2] 24 → ∀ ga, Blk W ga #[.int .i64 8] 3 → gb ≠ ga → Bs W (some ⟨b, off, none⟩) n2 c2 l → Calls Try.prog 83 #[.bool s, .pointer (some ⟨gb, 0, none⟩), .pointer (some ⟨ga, 0, none⟩)] W fun e w' => e = .returned (.int .u32 sq) ∧ W.grownBy w' (some ga) ∧ Blk w' ga #[.int .i64 a1] 3 := fun W h1 ga h2 h3 h4 => by
    have := next_any s gb ga (some ⟨b, off, none⟩) n2 c2 l 8 (by omega) (by omega) W h1 h2 h3 h4
    rw [hsq, ha1] at this
    exact this
  have N2 : ∀ W, Blk W gb #[.slice (some ⟨b, off, none⟩) n2 c2] 24 → ∀ ga, Blk W ga #[.int .i64 a1] 3 → gb ≠ ga → Bs W (some ⟨b, off, none⟩) n2 c2 l → Calls Try.prog 83 #[.bool a, .pointer (some ⟨gb, 0, none⟩), .pointer (some ⟨ga, 0, none⟩)] W fun e w' => e = .returned (.int .u32 ak) ∧ W.grownBy w' (some ga) ∧ Blk w' ga #[.int .i64 (H : Int)] 3 := fun W h1 ga h2 h3 h4 => by
    have := next_any a gb ga (some ⟨b, off, none⟩) n2 c2 l a1 (by omega) (by omega) W h1 h2 h3 h4
    rw [hak, hHd] at this
    exact this
  have HA1 := Lib.hid ha1
  have HRD : Hid (rdF l = ⟨get16 l 6, s, a, sq, ak, l.drop H⟩) := by unfold Hid; rw [HRd.out, hsq, hak]
  have hHn : get16 l 4 = nn := HNN.out
  clear ha1 hsq hak hs ha hH hHd HRd HH HNN HLE
  have hmf : ∀ (fn : Fn) (first cap : Array Value) (w : World), (Instr.makeFunc fn first cap).run Try.prog w = .ok (.func fn first cap) w := fun _ _ _ _ => rfl
  obtain ⟨ga, hga⟩ : ∃ ga : Nat, w5.heap.size = ga := ⟨_, rfl⟩
  obtain ⟨w7, hw7⟩ : ∃ w7, w5.alloc (.cells #[.int .i64 8] 3) = w7 := ⟨_, rfl⟩
  have V7 : Below w5.heap.size w5 w7 := by rw [← hw7]; (repeat (first | with_reducible exact Below.refl _ _ | with_reducible refine below_drew ?_ | with_reducible refine below_drewN ?_ _ | with_reducible refine below_alloc ?_ (Nat.le_refl _) _ | with_reducible refine Below.setCell ?_ (by first | exact Nat.le_refl _ | (simp only []; omega)) _ | with_reducible assumption))
  have J7 : Blk w7 ga #[.int .i64 8] 3 := by rw [← hw7]; exact blk_new _ _ _ ga hga
  have fl5 := F5.lt
  have kl5 := K5.lt
  have zl5 := Z5.lt
  have F7 := F5.below V7
  have K7 := K5.below V7
  have Z7 := Z5.below V7
  have T7 := below_then T5 V7
  have kk5 : w.heap.size ≤ ga := by rw [← hga]; exact T5.size
  have hne : gb ≠ ga := by omega
  have hng : gf ≠ ga := by omega
  have hnz : k + 1 ≠ ga := by omega
  have HGA := Lib.hid hga
  have HV := Lib.hid V7.size
  go_wp2_with fail
  clear hga zc5 hw7
  refine regionX 9 [3, 7] ga (fun c W => match c with | 0 => Blk W ga #[.int .i64 8] 3 | 1 => Blk W ga #[.int .i64 a1] 3 | _ + 2 => Blk W ga #[.int .i64 (H : Int)] 3) (by kernel_rfl) (by kernel_rfl) (by kernel_rfl) J7 (fun c W W' hj hb => by cases c with | zero => exact Blk.below hj hb | succ n => cases n <;> exact Blk.below hj hb) ?_; (iterate 9 (first | (apply ObsX.skip (by rfl) (by rfl)) | (apply ObsX.v (by rfl) (by rfl); (intro wo hE; (repeat (first | (intro _ _ k; try have hcv := cv k))); (have fco := (F7.ext hE hng).cell; have Ko := K7.ext hE hne; have xo := k2.ext T7 kk5 hE; (try have hj0 : Blk wo ga #[.int .i64 8] 3 := hj); (try have hj1 : Blk wo ga #[.int .i64 a1] 3 := hj)); refine Goes.mk ?_; go_simp; first | exact goes_v | (refine goes_enter ?_; first | (go_at_call 83; ((with_reducible refine (N1 wo Ko ga hj0 hne xo).mono ?_); rintro e w9 ⟨rfl, hE9, hJ9⟩); exact ⟨_, rfl, rfl, hE9, hJ9⟩) | (go_at_call 83; ((with_reducible refine (N2 wo Ko ga hj1 hne xo).mono ?_); rintro e w9 ⟨rfl, hE9, hJ9⟩); exact ⟨_, rfl, rfl, hE9, hJ9⟩)))) | (apply ObsX.ev (by rfl) (by rfl); (intro wo hE hj; (repeat (first | (intro _ _ k; try have hcv := cv k))); (have fco := (F7.ext hE hng).cell; have Ko := K7.ext hE hne; have xo := k2.ext T7 kk5 hE; (try have hj0 : Blk wo ga #[.int .i64 8] 3 := hj); (try have hj1 : Blk wo ga #[.int .i64 a1] 3 := hj)); refine GoesX.mk ?_; go_simp; first | exact goes_v | (refine goes_enter ?_; first | (go_at_call 83; ((with_reducible refine (N1 wo Ko ga hj0 hne xo).mono ?_); rintro e w9 ⟨rfl, hE9, hJ9⟩); exact ⟨_, rfl, rfl, hE9, hJ9⟩) | (go_at_call 83; ((with_reducible refine (N2 wo Ko ga hj1 hne xo).mono ?_); rintro e w9 ⟨rfl, hE9, hJ9⟩); exact ⟨_, rfl, rfl, hE9, hJ9⟩)))))); refine ObsX.nil ?_; intro wz hEz hJz; simp only [finOn, List.drop_succ_cons, List.drop_zero, List.drop_nil]
  go_simp
  have J8 : Blk wz ga #[.int .i64 (H : Int)] 3 := hJz
  have F8 := F7.ext hEz hng
  have K8 := K7.ext hEz hne
  have Z8 := Z7.ext hEz hnz
  have T8 : Below w.heap.size w wz := T7.grown hEz T7.size (fun k e => by injection e with e; omega)
  clear N1 N2
  have fc8 := F8.cell
  have fl8 := F8.lt
  have kl8 := K8.lt
  have zl8 := Z8.lt
  have jl8 := J8.lt
  obtain ⟨w9, hw9, S9⟩ : ∃ wf, (wz.setCell ⟨gf, 3, none⟩ (.int .u32 sq)).setCell ⟨gf, 4, none⟩ (.int .u32 ak) = wf ∧ Sto wz gf wf #[.int .u16 (get16 l 6), .bool s, .bool a, .int .u32 sq, .int .u32 ak, .slice none 0 0] 52 := ⟨_, rfl, by
    have := ((Sto.nil F8).set 3 (.int .u32 sq)).set 4 (.int .u32 ak)
    simp only [List.setIfInBounds_toArray, List.set_cons_zero, List.set_cons_succ] at this
    exact this⟩
  have hgf : w.heap.size ≤ gf := Nat.le_trans kk gfB
  have F9 := S9.blk
  have J9 := S9.other (Ne.symm hng) J8
  have K9 := S9.other (by omega) K8
  have Z9 := S9.other (by omega) Z8
  have T9 := S9.bel T8 hgf
  have x9 := k2.below T9
  go_wp2_with fail
  clear hw9 S9 fc8 F8 J8 K8 Z8 T8 hJz hEz
  refine region_txt 5 (by kernel_rfl) (by kernel_rfl) ?_; (iterate 5 (first | (apply ObsK.skip (by rfl)) | (apply ObsK.v (by rfl); (intro wo hT; (repeat (first | (intro _ _ k; try have hcv := cv k))); (have jco := (J9.below hT).cell; have kco := (K9.below hT).cell; have bo := x9.below hT); refine Goes.mk ?_; go_simp; first | exact goes_v | exact goes_b (by assumption) | (refine goes_enter ?_; first | (go_at_call 47; ((with_reducible refine (get16_any (some ⟨b, off, none⟩) n2 c2 l 4 wo bo).mono ?_); rintro e w10 ⟨rfl, hD10⟩); (try rw [hHn]); exact ret_v hD10.bel)))) | (apply ObsK.b (by rfl); (intro wo hT; (repeat (first | (intro _ _ k; try have hcv := cv k))); (have jco := (J9.below hT).cell; have kco := (K9.below hT).cell; have bo := x9.below hT); refine Goes.mk ?_; go_simp; first | exact goes_v | exact goes_b (by assumption) | (refine goes_enter ?_; first | (go_at_call 47; ((with_reducible refine (get16_any (some ⟨b, off, none⟩) n2 c2 l 4 wo bo).mono ?_); rintro e w10 ⟨rfl, hD10⟩); (try rw [hHn]); exact ret_v hD10.bel)))))); refine ObsK.nil ?_; intro wz hBz; simp only [finOn, List.drop_succ_cons, List.drop_zero, List.drop_nil]
  go_simp
  have F10 := F9.below hBz
  have J10 := J9.below hBz
  have K10 := K9.below hBz
  have Z10 := Z9.below hBz
  have T10 := below_then T9 hBz
  have x10 := k2.below T10
  have fc10 := F10.cell
  have jc10 := J10.cell
  have kc10 := K10.cell
  have zc10 := Z10.cell
  have hf10 := F10.lt
  have zl10 := Z10.lt
  by_cases t1 : (n2 : Int) < (H : Int) + nn
  · obtain ⟨eF, eE⟩ := HE3.out t1
    have GF := Lib.hid eF
    have GE := Lib.hid eE
    clear eF eE
    go_wp2_with fail
    obtain ⟨wf, hwf, Sf⟩ := store6 Z10 (.int .u16 0) (.bool false) (.bool false) (.int .u32 0) (.int .u32 0) (.slice none 0 0)
    rw [hwf, GF.out, GE.out]
    have pf := Sf.blk.cell
    exact bodyPost_ret (by simp [results, Try.results73, go_sem, pf]) rfl (frPost_no (Sf.bel T10 (by omega)))
  · by_cases t2 : (H : Int) + nn < (n2 : Int)
    · obtain ⟨eF, eE⟩ := HE4.out t2
      have GF := Lib.hid eF
      have GE := Lib.hid eE
      clear eF eE
      go_wp2_with fail
      obtain ⟨wf, hwf, Sf⟩ := store6 Z10 (.int .u16 0) (.bool false) (.bool false) (.int .u32 0) (.int .u32 0) (.slice none 0 0)
      rw [hwf, GF.out, GE.out]
      have pf := Sf.blk.cell
      exact bodyPost_ret (by simp [results, Try.results73, go_sem, pf]) rfl (frPost_no (Sf.bel T10 (by omega)))
    · obtain ⟨eF, eE⟩ := HE0.out (by omega)
      rw [HRD.out] at eF
      have GF := Lib.hid eF
      have GE := Lib.hid eE
      clear eF eE HE0 HE3 HE4 HRD
      have hH : H ≤ n2 := by omega
      have hcut : ∀ W, (Instr.slice 24 (.slice (some ⟨b, off, none⟩) n2 c2) (some (.int .i64 (H : Int))) none none).run Try.prog W = _ := fun W => cut_l Try.underlying24 hi8 hs8 (some ⟨b, off, none⟩) n2 c2 .i64 H (by omega) (by omega) W
      obtain ⟨A', n', c', eA, en, ec, hbD⟩ := x10.cutE (lo := H) (hi := n2) hH (Nat.le_refl _)
      simp only [Int.toNat_natCast, eA, en, ec] at hcut
      rw [hlL] at hbD
      clear eA en ec hlL
      go_wp2_with (go_at_call 64; ((with_reducible refine (clone_any A' n' c' _ _ hbD).mono ?_); rintro e w11 ⟨A9, c9, rfl, ho9, hB9⟩); have F11 := F10.below hB9; have Z11 := Z10.below hB9; have fc11 := F11.cell; (obtain ⟨w12, hw12, S12⟩ := store1 F11 5 (.slice A9 n' c9)); simp only [List.setIfInBounds_toArray, List.set_cons_zero, List.set_cons_succ] at S12; have F12 := S12.blk.cell; have Z12 := S12.other (by omega) Z11; have zc12 := Z12.cell; have zl12 := Z12.lt; have T12 := S12.bel (below_then T10 hB9) hgf; have O12 := S12.own ho9 (fun a e => by have := ho9.ge a e; omega))
      obtain ⟨wf, hwf, Sf⟩ := store6 Z12 (.int .u16 (get16 l 6)) (.bool s) (.bool a) (.int .u32 sq) (.int .u32 ak) (.slice A9 n' c9)
      rw [hwf, GF.out, GE.out]
      have pf := Sf.blk.cell
      have Of := Sf.own O12 (fun a e => by have := O12.ge a e; omega)
      have s10 := T10.size
      exact bodyPost_ret (v := .tuple #[.agg #[.int .u16 (get16 l 6), .bool s, .bool a, .int .u32 sq, .int .u32 ak, .slice A9 n' c9], .int .i64 0]) (by simp [results, Try.results73, go_sem, pf]) rfl ⟨A9, n', c9, rfl, Of.mono s10, Sf.bel T12 (by omega)⟩
theorem gre_any (p : Pkt) (A1 : Option Addr) (n1 c1 : Nat) (A2 : Option Addr) (n2 c2 : Nat) (w : World) (k2 : Bs w A2 n2 c2 p.dat) :
    Calls Try.prog 73 #[(.agg #[.int .u8 (p).tos, .int .u16 (p).id, .bool (p).keep, .int .u8 (p).ttl, .int .u8 (p).proto, .int .u32 (p).src, .int .u32 (p).dst, .slice A1 n1 c1, .slice A2 n2 c2])] w (FrPost w (geF p) (geE p)) := by
  have l2 := k2.len
  by_cases h1 : p.proto = 47
  · have h1' : (p.proto != 47) = false := by simp [h1]
    by_cases h2 : 8 ≤ (n2 : Int)
    · cases hq : eqW p.dat with
      | true => exact gre_yes p A1 n1 c1 A2 n2 c2 w k2 h1' h2 hq
      | false =>
        have e : geE p = 4 := by unfold geE; rw [if_neg (by simp [h1]), l2, if_neg (by omega), if_pos (by rw [← (eqW_begB p.dat).1, hq])]
        rw [show geF p = zF from by unfold geF; rw [e, if_neg (by decide)], e]
        exact gre_form p A1 n1 c1 A2 n2 c2 w k2 h1' h2 hq
    · have e : geE p = 3 := by unfold geE; rw [if_neg (by simp [h1]), l2, if_pos (by omega)]
      rw [show geF p = zF from by unfold geF; rw [e, if_neg (by decide)], e]
      exact gre_no p A1 n1 c1 A2 n2 c2 w k2 3 (.inr ⟨rfl, h1', by omega⟩)
  · have e : geE p = 12 := by unfold geE; rw [if_pos h1]
    rw [show geF p = zF from by unfold geF; rw [e, if_neg (by decide)], e]
    exact gre_no p A1 n1 c1 A2 n2 c2 w k2 12 (.inl ⟨rfl, by simpa using h1⟩)
end Go.Proofs.Ythgoffbfgdgkpaa

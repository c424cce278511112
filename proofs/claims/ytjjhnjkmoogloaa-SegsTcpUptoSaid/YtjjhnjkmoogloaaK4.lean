/- Parts of the proofs of this seat, laid together: SegB SegBR SegU SegUB SegUR. -/
import Derived.Test.YtjjhnjkmoogloaaK3
import Derived.Test.YtjjhnjkmoogloaaK2
import Derived.Test.YtjjhnjkmoogloaaK1
/- The packet with a segment: segs.BuildTcp. -/
namespace Go.Proofs.Ytjjhnjkmoogloaa
open Go.RowKit
set_option linter.unusedVariables false
set_option linter.unusedSimpArgs false
set_option linter.unusedSimpArgs false
set_option maxHeartbeats 4000000
set_option maxRecDepth 100000

/-- A new array of these cells, as a slice. -/
def isArr (B m : Nat) (cs : Array Value) (t : TypeId) : World → Value → Prop := fun W v => ∃ g, v = .slice (some ⟨g, 0, none⟩) m m ∧ B ≤ g ∧ Blk W g cs t
theorem st_isArr {B m : Nat} {cs : Array Value} {t : TypeId} : ∀ w w' v, isArr B m cs t w v → Below w.heap.size w w' → isArr B m cs t w' v := fun _ _ _ ⟨g, e, h, k⟩ hb => ⟨g, e, h, k.below hb⟩
theorem goes_arr {B m : Nat} {W : World} {cs : Array Value} {t : TypeId} (h : B ≤ W.heap.size) : OpGoes Try.prog (fun v w' => (Kd.p (isArr B m cs t)).holds w' v ∧ Below W.heap.size W w') (.ok (.value (.slice (some ⟨W.heap.size, 0, none⟩) m m)) (W.alloc (.cells cs t))) :=
  ⟨⟨_, rfl, h, blk_new W cs t _ rfl⟩, (Below.refl _ W).alloc (Nat.le_refl _) _⟩
def hdSg (s : Seg) : List UInt8 := (([] ++ twos [s.src, s.dst]) ++ fours [s.seq, s.ack]) ++ twos [s.flags, s.win, 0, s.urg]
theorem hdSg_len (s : Seg) : (hdSg s).length = 20 := by simp [hdSg, twos, fours, two, four]
theorem sL_of (s : Seg) (x : Int) (hx : ((20 + (optL s.opts).length : Nat) : Int) / 4 * 16 = x) : (hdSg s ++ optL s.opts).set 12 (ub x) ++ s.dat = sL s := by
  subst hx
  have h : ∀ z, (hdSg s ++ optL s.opts).set 12 z = two s.src ++ two s.dst ++ four s.seq ++ four s.ack ++ [z, ub s.flags] ++ two s.win ++ [0, 0] ++ two s.urg ++ optL s.opts := fun z => by
    simp [hdSg, twos, fours, two, four]
    decide
  rw [h]
  simp [sL]
/-- The segment's bytes with their sum. -/
def sS (p : Pkt) (s : Seg) : List UInt8 := put16 (sL s) 16 (psum p 6 (sL s))
def sbE (p : Pkt) (s : Seg) : Int := if okOs s.opts then wiE p (sN s) else 4
def sbP (p : Pkt) (s : Seg) : Pkt := if sbE p s = 0 then { p with proto := 6, dat := sS p s } else zP
theorem sS_len (p : Pkt) (s : Seg) : (sS p s).length = sN s := by unfold sS; rw [put16_length, sL_len]
theorem goes_cat2 {W : World} {n1 c1 n2 c2 : Nat} {A1 A2 : Option Addr} {l1 l2 : List UInt8} {T : TypeId} (k1 : Bs W A1 n1 c1 l1) (k2 : Bs W A2 n2 c2 l2) (h : n1 + n2 ≤ 200000000000000) :
    OpGoes Try.prog (fun v w' => (Kd.p (isC (l1 ++ l2))).holds w' v ∧ Below W.heap.size W w') (.ok (.value (.slice (some ⟨W.heap.size, 0, none⟩) 2 2)) (W.alloc (.cells #[.slice A1 n1 c1, .slice A2 n2 c2] T))) :=
  ⟨⟨isCat2' (blk_new W _ T _ rfl) (k1.alloc _) (k2.alloc _) h⟩, (Below.refl _ W).alloc (Nat.le_refl _) _⟩
theorem goes_tup {B : Nat} {P : Pkt} {E : Int} {C1 C2 : Option Addr} {e1 f1 e2 f2 : Nat} {w : World} (h1 : Own w B 5 C1 e1 f1 P.opt) (h2 : Own w B 5 C2 e2 f2 P.dat) :
    OpGoes Try.prog (fun v w' => (Kd.p (isTup B P E)).holds w' v ∧ Below w.heap.size w w') (.ok (.value (.tuple #[(.agg #[.int .u8 (P).tos, .int .u16 (P).id, .bool (P).keep, .int .u8 (P).ttl, .int .u8 (P).proto, .int .u32 (P).src, .int .u32 (P).dst, .slice C1 e1 f1, .slice C2 e2 f2]), .int .i64 E])) w) := ⟨⟨_, _, _, _, _, _, rfl, h1, h2⟩, Below.refl _ _⟩
/-- segs.with of a packet. -/
theorem swith_all (p : Pkt) (A1 : Option Addr) (n1 c1 : Nat) (A2 : Option Addr) (n2 c2 : Nat) (pr : Int) (d : List UInt8) (P : Pkt) (E : Int) (hE : wiE p d.length = E) (hP : P = withP p pr d) (base : Nat) (A3 : Option Addr) (n3 c3 : Nat) (w : World) (k1 : Bs w A1 n1 c1 p.opt) (k3 : Own w base 5 A3 n3 c3 d) (hb : base ≤ w.heap.size) :
    Calls Try.prog 48 #[(.agg #[.int .u8 (p).tos, .int .u16 (p).id, .bool (p).keep, .int .u8 (p).ttl, .int .u8 (p).proto, .int .u32 (p).src, .int .u32 (p).dst, .slice A1 n1 c1, .slice A2 n2 c2]), .int .u8 pr, .slice A3 n3 c3] w (fun e w' => ∃ C1 e1 f1 C2 e2 f2, e = .returned (.tuple #[(.agg #[.int .u8 (P).tos, .int .u16 (P).id, .bool (P).keep, .int .u8 (P).ttl, .int .u8 (P).proto, .int .u32 (P).src, .int .u32 (P).dst, .slice C1 e1 f1, .slice C2 e2 f2]), .int .i64 E]) ∧ Own w' base 5 C1 e1 f1 P.opt ∧ Own w' base 5 C2 e2 f2 P.dat ∧ Below w.heap.size w w') := by
  have l3 := k3.len
  by_cases h : E = 0
  · have hp : P = { p with proto := pr, dat := d } := by rw [hP]; unfold withP; rw [hE, if_pos h]
    refine (swith_ok p A1 n1 c1 A2 n2 c2 pr A3 n3 c3 d w k1 k3.bs (by rw [← l3, hE, h])).mono ?_
    rintro e w' ⟨A4, n4, c4, rfl, O4, hB⟩
    rw [hp, h]
    exact ⟨A4, n4, c4, A3, n3, c3, rfl, O4.mono hb, k3.below hB, hB⟩
  · have hp : P = zP := by rw [hP]; unfold withP; rw [hE, if_neg h]
    refine (swith_bad p A1 n1 c1 A2 n2 c2 pr A3 n3 c3 d w k1 k3.bs (by rw [← l3, hE]; exact h)).mono ?_
    rintro e w' ⟨B1, m1, d1, B2, m2, d2, rfl, O1, O2, hB⟩
    rw [hp, ← hE, l3]
    exact ⟨B1, m1, d1, B2, m2, d2, rfl, O1.mono hb, O2.mono hb, hB⟩
theorem sbuild_any (p : Pkt) (hp : p.Ok) (X1 : Option Addr) (m1 j1 : Nat) (X2 : Option Addr) (m2 j2 : Nat) (s : Seg) (hs : s.Ok) (OA : Option Addr) (on oc : Nat) (DA : Option Addr) (dn dc : Nat) (w : World) (k1 : Bs w X1 m1 j1 p.opt) (K : Os w OA on oc s.opts) (kd : Bs w DA dn dc s.dat)
    (hdn : dn ≤ 140737488351232) : Calls Try.prog 18 #[(.agg #[.int .u8 (p).tos, .int .u16 (p).id, .bool (p).keep, .int .u8 (p).ttl, .int .u8 (p).proto, .int .u32 (p).src, .int .u32 (p).dst, .slice X1 m1 j1, .slice X2 m2 j2]), (.agg #[.int .u16 (s).src, .int .u16 (s).dst, .int .u32 (s).seq, .int .u32 (s).ack, .int .u8 (s).flags, .int .u16 (s).win, .int .u16 (s).urg, .slice OA on oc, .slice DA dn dc])] w (WiPost w (sbP p s) (sbE p s)) := by
  obtain ⟨⟨a0, a1⟩, ⟨d0, d1⟩, ⟨q0, q1⟩, ⟨r0, r1⟩, ⟨f0, f1⟩, ⟨v0, v1⟩, ⟨g0, g1⟩, -⟩ := hs
  have hTs : 77 ≠ 5 := by decide
  have hwf : IntKind.u16.wrap s.flags = s.flags := by rw [IntKind.wrap_u16]; omega
  have h77 : 26 ≠ 5 := by decide
  have h78 : 29 ≠ 5 := by decide
  obtain ⟨k, hk⟩ : ∃ k : Nat, w.heap.size = k := ⟨_, rfl⟩
  obtain ⟨w1, hw1⟩ : ∃ W, ((((w.alloc (.cells #[.int .u8 (p).tos, .int .u16 (p).id, .bool (p).keep, .int .u8 (p).ttl, .int .u8 (p).proto, .int .u32 (p).src, .int .u32 (p).dst, .slice X1 m1 j1, .slice X2 m2 j2] 26)).alloc (.cells #[.int .u16 (s).src, .int .u16 (s).dst, .int .u32 (s).seq, .int .u32 (s).ack, .int .u8 (s).flags, .int .u16 (s).win, .int .u16 (s).urg, .slice OA on oc, .slice DA dn dc] 29)).alloc (.cells #[.int .u8 0, .int .u16 0, .bool false, .int .u8 0, .int .u8 0, .int .u32 0, .int .u32 0, .slice none 0 0, .slice none 0 0] 26)).alloc (.cells #[.slice none 0 0, .bool false] 77)) = W := ⟨_, rfl⟩
  have P1 : Blk w1 k #[.int .u8 (p).tos, .int .u16 (p).id, .bool (p).keep, .int .u8 (p).ttl, .int .u8 (p).proto, .int .u32 (p).src, .int .u32 (p).dst, .slice X1 m1 j1, .slice X2 m2 j2] 26 := by rw [← hw1]; exact ((((blk_new _ _ _ k (by simp [hk])).alloc _).alloc _).alloc _)
  have S1 : Blk w1 (k + 1) #[.int .u16 (s).src, .int .u16 (s).dst, .int .u32 (s).seq, .int .u32 (s).ack, .int .u8 (s).flags, .int .u16 (s).win, .int .u16 (s).urg, .slice OA on oc, .slice DA dn dc] 29 := by rw [← hw1]; exact (((blk_new _ _ _ (k + 1) (by simp [hk])).alloc _).alloc _)
  have Z1 : Blk w1 (k + 1 + 1) #[.int .u8 0, .int .u16 0, .bool false, .int .u8 0, .int .u8 0, .int .u32 0, .int .u32 0, .slice none 0 0, .slice none 0 0] 26 := by rw [← hw1]; exact ((blk_new _ _ _ (k + 1 + 1) (by simp [hk])).alloc _)
  have H1 : Blk w1 (k + 1 + 1 + 1) #[.slice none 0 0, .bool false] 77 := by rw [← hw1]; exact (blk_new _ _ _ (k + 1 + 1 + 1) (by simp [hk]))
  have R1 : Below w.heap.size w w1 := by rw [← hw1]; (repeat (first | with_reducible exact Below.refl _ _ | with_reducible refine below_drew ?_ | with_reducible refine below_drewN ?_ _ | with_reducible refine below_alloc ?_ (Nat.le_refl _) _ | with_reducible refine Below.setCell ?_ (by first | exact Nat.le_refl _ | (simp only []; omega)) _ | with_reducible assumption))
  have Pc1 := P1.cell
  have Sc1 := S1.cell
  have Zc1 := Z1.cell
  have Hc1 := H1.cell
  have Pl1 := P1.lt
  have Sl1 := S1.lt
  have Zl1 := Z1.lt
  have Hl1 := H1.lt
  go_enter Try.func18, Try.ntmps18
  go_wp2_with fail
  have hk1 : w.heap.size ≤ k := Nat.le_of_eq hk
  have hk2 : k ≤ w.heap.size := Nat.le_of_eq hk.symm
  clear hk hw1
  have sc1 := S1.cell
  have hc1 := H1.cell
  have hl1 := H1.lt
  have sl1 := S1.lt
  refine region_txt 8 (by kernel_rfl) (by kernel_rfl) ?_; (iterate 8 (first | (apply ObsK.skip (by rfl)) | (apply ObsK.v (by rfl); (intro wo hT; (repeat (first | (intro v hv; (fail)) | (intro _ _ k; try have hcv := cv k))); (have sc := (S1.below hT).cell; have hc := (H1.below hT).cell; have hsz : w1.heap.size ≤ wo.heap.size := hT.size); refine Goes.mk ?_; go_simp; first | exact goes_v | exact goes_b (by assumption) | exact goes_arr hsz | (refine goes_enter ?_; first | fail))) | (apply ObsK.b (by rfl); (intro wo hT; (repeat (first | (intro v hv; (fail)) | (intro _ _ k; try have hcv := cv k))); (have sc := (S1.below hT).cell; have hc := (H1.below hT).cell; have hsz : w1.heap.size ≤ wo.heap.size := hT.size); refine Goes.mk ?_; go_simp; first | exact goes_v | exact goes_b (by assumption) | exact goes_arr hsz | (refine goes_enter ?_; first | fail))) | (apply ObsK.p (q := isArr w1.heap.size 2 (u16s [s.src, s.dst]) 22) (by rfl) st_isArr; (intro wo hT; (repeat (first | (intro v hv; (fail)) | (intro _ _ k; try have hcv := cv k))); (have sc := (S1.below hT).cell; have hc := (H1.below hT).cell; have hsz : w1.heap.size ≤ wo.heap.size := hT.size); refine Goes.mk ?_; go_simp; first | exact goes_v | exact goes_b (by assumption) | exact goes_arr hsz | (refine goes_enter ?_; first | fail))))); refine ObsK.nil ?_; intro wz hBz; simp only [finOn, List.drop_succ_cons, List.drop_zero, List.drop_nil]
  rintro v2 ⟨g2, rfl, hg2, G2⟩
  go_simp
  have H1z := H1.below hBz
  have P1z := P1.below hBz
  have S1z := S1.below hBz
  have Z1z := Z1.below hBz
  have zs1 := hBz.size
  have rs1 := R1.size
  have h2 := htwo_any w.heap.size w.heap.size (k + 1 + 1 + 1) _ 77 none 0 0 [] g2 2 2 [s.src, s.dst] rfl (by omega) wz H1z rfl (own_nil _ _ _) (by omega) G2 (by intro x hx; simp at hx; omega) hTs (by omega) (by omega) (Nat.le_refl _) (by omega) (by omega)
  go_wp2_with (go_at_call 45; ((with_reducible refine (h2).mono ?_); rintro e w2 hpost); (obtain ⟨rfl, A2, n2, c2, H2, O2, B2, K2⟩ := hpost.out); simp only [List.setIfInBounds_toArray, List.set_cons_zero] at H2)
  have u2 : n2 = 4 := by rw [← O2.len]; simp [twos, fours, two, four]
  subst u2
  have R2 := (R1.trans (hBz.mono (by omega))).trans B2
  have P2 := K2 k _ _ h77 (by omega) P1z
  have S2 := K2 (k + 1) _ _ h78 (by omega) S1z
  have Z2 := K2 (k + 1 + 1) _ _ h77 (by omega) Z1z
  clear P1z S1z Z1z H1z hpost h2 G2 hg2 zs1 rs1 sc1 hc1 hl1 sl1 B2 K2 hBz
  have sc2 := S2.cell
  have hc2 := H2.cell
  have hl2 := H2.lt
  have sl2 := S2.lt
  refine region_txt 8 (by kernel_rfl) (by kernel_rfl) ?_; (iterate 8 (first | (apply ObsK.skip (by rfl)) | (apply ObsK.v (by rfl); (intro wo hT; (repeat (first | (intro v hv; (fail)) | (intro _ _ k; try have hcv := cv k))); (have sc := (S2.below hT).cell; have hc := (H2.below hT).cell; have hsz : w2.heap.size ≤ wo.heap.size := hT.size); refine Goes.mk ?_; go_simp; first | exact goes_v | exact goes_b (by assumption) | exact goes_arr hsz | (refine goes_enter ?_; first | fail))) | (apply ObsK.b (by rfl); (intro wo hT; (repeat (first | (intro v hv; (fail)) | (intro _ _ k; try have hcv := cv k))); (have sc := (S2.below hT).cell; have hc := (H2.below hT).cell; have hsz : w2.heap.size ≤ wo.heap.size := hT.size); refine Goes.mk ?_; go_simp; first | exact goes_v | exact goes_b (by assumption) | exact goes_arr hsz | (refine goes_enter ?_; first | fail))) | (apply ObsK.p (q := isArr w2.heap.size 2 (u32s [s.seq, s.ack]) 23) (by rfl) st_isArr; (intro wo hT; (repeat (first | (intro v hv; (fail)) | (intro _ _ k; try have hcv := cv k))); (have sc := (S2.below hT).cell; have hc := (H2.below hT).cell; have hsz : w2.heap.size ≤ wo.heap.size := hT.size); refine Goes.mk ?_; go_simp; first | exact goes_v | exact goes_b (by assumption) | exact goes_arr hsz | (refine goes_enter ?_; first | fail))))); refine ObsK.nil ?_; intro wz hBz; simp only [finOn, List.drop_succ_cons, List.drop_zero, List.drop_nil]
  rintro v3 ⟨g3, rfl, hg3, G3⟩
  go_simp
  have H2z := H2.below hBz
  have P2z := P2.below hBz
  have S2z := S2.below hBz
  have Z2z := Z2.below hBz
  have zs2 := hBz.size
  have rs2 := R2.size
  have h3 := hfour_any w.heap.size w.heap.size (k + 1 + 1 + 1) _ 77 A2 4 c2 _ g3 2 2 [s.seq, s.ack] rfl (by omega) wz H2z rfl (O2.below hBz) (by omega) G3 (by intro x hx; simp at hx; omega) hTs (by omega) (by omega) (Nat.le_refl _) (by omega) (by omega)
  go_wp2_with (go_at_call 46; ((with_reducible refine (h3).mono ?_); rintro e w3 hpost); (obtain ⟨rfl, A3, n3, c3, H3, O3, B3, K3⟩ := hpost.out); simp only [List.setIfInBounds_toArray, List.set_cons_zero] at H3)
  have u3 : n3 = 12 := by rw [← O3.len]; simp [twos, fours, two, four]
  subst u3
  have R3 := (R2.trans (hBz.mono (by omega))).trans B3
  have P3 := K3 k _ _ h77 (by omega) P2z
  have S3 := K3 (k + 1) _ _ h78 (by omega) S2z
  have Z3 := K3 (k + 1 + 1) _ _ h77 (by omega) Z2z
  clear P2z S2z Z2z H2z hpost h3 G3 hg3 zs2 rs2 sc2 hc2 hl2 sl2 B3 K3 hBz
  have sc3 := S3.cell
  have hc3 := H3.cell
  have hl3 := H3.lt
  have sl3 := S3.lt
  refine region_txt 11 (by kernel_rfl) (by kernel_rfl) ?_; (iterate 11 (first | (apply ObsK.skip (by rfl)) | (apply ObsK.v (by rfl); (intro wo hT; (repeat (first | (intro v hv; (fail)) | (intro _ _ k; try have hcv := cv k))); (have sc := (S3.below hT).cell; have hc := (H3.below hT).cell; have hsz : w3.heap.size ≤ wo.heap.size := hT.size); refine Goes.mk ?_; go_simp; first | exact goes_v | exact goes_b (by assumption) | exact goes_arr hsz | (refine goes_enter ?_; first | fail))) | (apply ObsK.b (by rfl); (intro wo hT; (repeat (first | (intro v hv; (fail)) | (intro _ _ k; try have hcv := cv k))); (have sc := (S3.below hT).cell; have hc := (H3.below hT).cell; have hsz : w3.heap.size ≤ wo.heap.size := hT.size); refine Goes.mk ?_; go_simp; first | exact goes_v | exact goes_b (by assumption) | exact goes_arr hsz | (refine goes_enter ?_; first | fail))) | (apply ObsK.p (q := isArr w3.heap.size 4 (u16s [s.flags, s.win, 0, s.urg]) 22) (by rfl) st_isArr; (intro wo hT; (repeat (first | (intro v hv; (fail)) | (intro _ _ k; try have hcv := cv k))); (have sc := (S3.below hT).cell; have hc := (H3.below hT).cell; have hsz : w3.heap.size ≤ wo.heap.size := hT.size); refine Goes.mk ?_; go_simp; first | exact goes_v | exact goes_b (by assumption) | exact goes_arr hsz | (refine goes_enter ?_; first | fail))))); refine ObsK.nil ?_; intro wz hBz; simp only [finOn, List.drop_succ_cons, List.drop_zero, List.drop_nil]
  rintro v4 ⟨g4, rfl, hg4, G4⟩
  go_simp
  have H3z := H3.below hBz
  have P3z := P3.below hBz
  have S3z := S3.below hBz
  have Z3z := Z3.below hBz
  have zs3 := hBz.size
  have rs3 := R3.size
  have h4 := htwo_any w.heap.size w.heap.size (k + 1 + 1 + 1) _ 77 A3 12 c3 _ g4 4 4 [s.flags, s.win, 0, s.urg] rfl (by omega) wz H3z rfl (O3.below hBz) (by omega) G4 (by intro x hx; simp at hx; omega) hTs (by omega) (by omega) (Nat.le_refl _) (by omega) (by omega)
  rcases Bool.eq_false_or_eq_true (okOs s.opts) with hok | hok
  · go_wp2_with (first
      | (go_at_call 45; ((with_reducible refine (h4).mono ?_); rintro e w4 hpost); (obtain ⟨rfl, A4, n4, c4, H4, O4, B4, K4⟩ := hpost.out); simp only [List.setIfInBounds_toArray, List.set_cons_zero] at H4; have u4 : 20 = n4 := (by rw [← O4.len]; simp [twos, fours, two, four]); subst u4; have R4 := (R3.trans (hBz.mono (by omega))).trans B4; have P4 := K4 k _ _ h77 (by omega) P3z; have S4 := K4 (k + 1) _ _ h78 (by omega) S3z; have Z4 := K4 (k + 1 + 1) _ _ h77 (by omega) Z3z; have O4' : Own w4 w.heap.size 5 A4 20 c4 (hdSg s) := O4; have s4 := S4.cell; have hl4 := H4.lt; have rs4 := R4.size; have ho := hopts_any w.heap.size w.heap.size (k + 1 + 1 + 1) 77 A4 c4 (hdSg s) w w4 OA on oc s.opts K R4 (Nat.le_refl _) H4 O4' hTs (by omega) (Nat.le_refl _) rs4 rs4)
      | (go_at_call 47; ((with_reducible refine (ho).mono ?_); rintro e w5 hpost5); (obtain ⟨rfl, A5, n5, c5, H5, O5, B5, K5⟩ := hpost5.out); have P5 := K5 k _ _ h77 (by omega) P4; have S5 := K5 (k + 1) _ _ h78 (by omega) S4; have Z5 := K5 (k + 1 + 1) _ _ h77 (by omega) Z4; have R5 := R4.trans B5; rw [hok] at H5; have hc5 := H5.cell; have zc5 := Z5.cell))
    replace O5 := O5 hok
    have hl5 := O5.len
    rw [List.length_append, hdSg_len] at hl5
    have hl6 := okOs_len hok
    have hl7 := (optL_len s.opts).2
    obtain ⟨g5, rfl, gb5, gl5⟩ := O5.ptr (by omega)
    have hx := sL_of s (((20 + (optL s.opts).length : Nat) : Int) / 4 * 16) rfl
    obtain ⟨x, hxe⟩ : ∃ x, ((20 + (optL s.opts).length : Nat) : Int) / 4 * 16 = x := ⟨_, rfl⟩
    rw [hxe] at hx
    have HX := Lib.hid hx
    clear hx
    have x0 : 0 ≤ x := by omega
    have x1 : x ≤ 255 := by omega
    have n60 : n5 ≤ 60 := by omega
    have n20 : 20 ≤ n5 := by omega
    have hx5 : (n5 : Int) / 4 * 16 = x := by omega
    clear hxe hl5 hl6 hl7
    obtain ⟨cc5, cf5⟩ := O5.at_ (i := 12) (by omega)
    have h5l := H5.lt
    refine region_txt 14 (by kernel_rfl) (by kernel_rfl) ?_; (iterate 14 (first | (apply ObsK.skip (by rfl)) | (apply ObsK.v (by rfl); (intro wo hT; (repeat (first | (intro _ _ k; try have hcv := cv k))); (have hc := (H5.below hT).cell; have oc5 := (O5.below hT).at_ (i := 12) (by omega)); refine Goes.mk ?_; go_simp; first | exact goes_v | exact goes_b (by assumption) | (refine goes_enter ?_; first | fail))) | (apply ObsK.b (by rfl); (intro wo hT; (repeat (first | (intro _ _ k; try have hcv := cv k))); (have hc := (H5.below hT).cell; have oc5 := (O5.below hT).at_ (i := 12) (by omega)); refine Goes.mk ?_; go_simp; first | exact goes_v | exact goes_b (by assumption) | (refine goes_enter ?_; first | fail))))); refine ObsK.nil ?_; intro wz hBz; simp only [finOn, List.drop_succ_cons, List.drop_zero, List.drop_nil]
    go_simp
    have hq1 : IntKind.i64.wrap ((n5 : Int) / 4) = (n5 : Int) / 4 := by rw [IntKind.wrap_i64]; omega
    have hq2 : IntKind.i64.wrap ((n5 : Int) / 4 * 16) = x := by rw [IntKind.wrap_i64]; omega
    have hq3 : IntKind.u8.wrap x = x := by rw [IntKind.wrap_u8]; omega
    have oc6 := (O5.below hBz).at_ (i := 12) (by omega)
    have n12 : (12 : Int) < n5 := by omega
    go_wp2_with fail
    obtain ⟨E, hE⟩ : ∃ E, wiE p (sN s) = E := ⟨_, rfl⟩
    obtain ⟨P, hP⟩ : ∃ P, P = withP p 6 (sL s) := ⟨_, rfl⟩
    have hw2 := fun W A n c k1 k3 hb => swith_all p X1 m1 j1 X2 m2 j2 6 (sL s) P E (by rw [sL_len]; exact hE) hP w.heap.size A n c W k1 k3 hb
    have HE := Lib.hid hE
    have HP := Lib.hid hP
    clear hE hP
    obtain ⟨w6, hw6⟩ : ∃ w6, wz.setCell ⟨g5, 12, none⟩ (.int .u8 x) = w6 := ⟨_, rfl⟩
    have gne := O5.ne_blk H5 hTs g5 rfl
    have H6 := (H5.below hBz).far ⟨g5, 12, none⟩ gne (.int .u8 x)
    have P6 := (P5.below hBz).far ⟨g5, 12, none⟩ (O5.ne_blk P5 h77 g5 rfl) (.int .u8 x)
    have S6 := (S5.below hBz).far ⟨g5, 12, none⟩ (O5.ne_blk S5 h78 g5 rfl) (.int .u8 x)
    have Z6 := (Z5.below hBz).far ⟨g5, 12, none⟩ (O5.ne_blk Z5 h77 g5 rfl) (.int .u8 x)
    have O6 := (O5.below hBz).set_ (i := 12) (by omega) x (y := x) (by omega)
    have R6 := (R5.trans (hBz.mono R5.size)).setCell (p := ⟨g5, 12, none⟩) gb5 (.int .u8 x)
    rw [hw6] at H6 P6 S6 Z6 O6 R6 ⊢
    have x6 := k1.below R6
    have y6 := kd.below R6
    have r6 := R6.size
    clear hw6 oc6 hq1 hq2 hq3 hx5 cc5 cf5 n12 hc5 zc5
    refine region_z 15 13 (by kernel_rfl) (by kernel_rfl) (fun _ _ _ _ _ h => h) ?_; (iterate 15 (first | (apply ObsK.skip (by rfl)) | (apply ObsK.v (by rfl); (intro wo hT; (repeat (first | (intro v hv; ((first | (have hcat := hv.out) | (obtain ⟨A7, n7, c7, rfl, o7⟩ := hv) | (obtain ⟨D1, g1, h1', D2, g2, h2', rfl, o13, o14⟩ := hv)))) | (intro _ _ k; try have hcv := cv k))); (have pc := (P6.below hT).cell; have sc := (S6.below hT).cell; have hc := (H6.below hT).cell; have xo := x6.below hT; have oo := (O6.below hT).bs; have yo := y6.below hT; have hsz : w6.heap.size ≤ wo.heap.size := hT.size); refine Goes.mk ?_; go_simp; first | exact goes_v | exact goes_b (by assumption) | (first | exact goes_cat2 (by assumption) (by assumption) (by omega) | exact goes_tup (by assumption) (by assumption) | exact goes_pk (by assumption) (by assumption) | exact goes_new hsz) | (refine goes_enter ?_; first | (go_at_call 49; ((with_reducible refine (hcat wo (Below.refl _ _)).mono ?_); rintro e w9 ⟨A9, n9, c9, rfl, ho9, hB9⟩); rw [HX.out] at ho9; exact ret_p (own_isW ho9 (by omega)) hB9) | (go_at_call 48; ((with_reducible refine (hw2 wo A7 n7 c7 xo o7 (by omega)).mono ?_); rintro e w9 ⟨D1, g1, h1', D2, g2, h2', rfl, o13, o14, hB9⟩); exact ret_tup (P := P) o13 o14 hB9)))) | (apply ObsK.b (by rfl); (intro wo hT; (repeat (first | (intro v hv; ((first | (have hcat := hv.out) | (obtain ⟨A7, n7, c7, rfl, o7⟩ := hv) | (obtain ⟨D1, g1, h1', D2, g2, h2', rfl, o13, o14⟩ := hv)))) | (intro _ _ k; try have hcv := cv k))); (have pc := (P6.below hT).cell; have sc := (S6.below hT).cell; have hc := (H6.below hT).cell; have xo := x6.below hT; have oo := (O6.below hT).bs; have yo := y6.below hT; have hsz : w6.heap.size ≤ wo.heap.size := hT.size); refine Goes.mk ?_; go_simp; first | exact goes_v | exact goes_b (by assumption) | (first | exact goes_cat2 (by assumption) (by assumption) (by omega) | exact goes_tup (by assumption) (by assumption) | exact goes_pk (by assumption) (by assumption) | exact goes_new hsz) | (refine goes_enter ?_; first | (go_at_call 49; ((with_reducible refine (hcat wo (Below.refl _ _)).mono ?_); rintro e w9 ⟨A9, n9, c9, rfl, ho9, hB9⟩); rw [HX.out] at ho9; exact ret_p (own_isW ho9 (by omega)) hB9) | (go_at_call 48; ((with_reducible refine (hw2 wo A7 n7 c7 xo o7 (by omega)).mono ?_); rintro e w9 ⟨D1, g1, h1', D2, g2, h2', rfl, o13, o14, hB9⟩); exact ret_tup (P := P) o13 o14 hB9)))) | (apply ObsK.p (q := isC ((hdSg s ++ optL s.opts).set 12 (ub x) ++ s.dat)) (by rfl) st_isC; (intro wo hT; (repeat (first | (intro v hv; ((first | (have hcat := hv.out) | (obtain ⟨A7, n7, c7, rfl, o7⟩ := hv) | (obtain ⟨D1, g1, h1', D2, g2, h2', rfl, o13, o14⟩ := hv)))) | (intro _ _ k; try have hcv := cv k))); (have pc := (P6.below hT).cell; have sc := (S6.below hT).cell; have hc := (H6.below hT).cell; have xo := x6.below hT; have oo := (O6.below hT).bs; have yo := y6.below hT; have hsz : w6.heap.size ≤ wo.heap.size := hT.size); refine Goes.mk ?_; go_simp; first | exact goes_v | exact goes_b (by assumption) | (first | exact goes_cat2 (by assumption) (by assumption) (by omega) | exact goes_tup (by assumption) (by assumption) | exact goes_pk (by assumption) (by assumption) | exact goes_new hsz) | (refine goes_enter ?_; first | (go_at_call 49; ((with_reducible refine (hcat wo (Below.refl _ _)).mono ?_); rintro e w9 ⟨A9, n9, c9, rfl, ho9, hB9⟩); rw [HX.out] at ho9; exact ret_p (own_isW ho9 (by omega)) hB9) | (go_at_call 48; ((with_reducible refine (hw2 wo A7 n7 c7 xo o7 (by omega)).mono ?_); rintro e w9 ⟨D1, g1, h1', D2, g2, h2', rfl, o13, o14, hB9⟩); exact ret_tup (P := P) o13 o14 hB9)))) | (apply ObsK.p (q := isW w.heap.size (sL s)) (by rfl) st_isW; (intro wo hT; (repeat (first | (intro v hv; ((first | (have hcat := hv.out) | (obtain ⟨A7, n7, c7, rfl, o7⟩ := hv) | (obtain ⟨D1, g1, h1', D2, g2, h2', rfl, o13, o14⟩ := hv)))) | (intro _ _ k; try have hcv := cv k))); (have pc := (P6.below hT).cell; have sc := (S6.below hT).cell; have hc := (H6.below hT).cell; have xo := x6.below hT; have oo := (O6.below hT).bs; have yo := y6.below hT; have hsz : w6.heap.size ≤ wo.heap.size := hT.size); refine Goes.mk ?_; go_simp; first | exact goes_v | exact goes_b (by assumption) | (first | exact goes_cat2 (by assumption) (by assumption) (by omega) | exact goes_tup (by assumption) (by assumption) | exact goes_pk (by assumption) (by assumption) | exact goes_new hsz) | (refine goes_enter ?_; first | (go_at_call 49; ((with_reducible refine (hcat wo (Below.refl _ _)).mono ?_); rintro e w9 ⟨A9, n9, c9, rfl, ho9, hB9⟩); rw [HX.out] at ho9; exact ret_p (own_isW ho9 (by omega)) hB9) | (go_at_call 48; ((with_reducible refine (hw2 wo A7 n7 c7 xo o7 (by omega)).mono ?_); rintro e w9 ⟨D1, g1, h1', D2, g2, h2', rfl, o13, o14, hB9⟩); exact ret_tup (P := P) o13 o14 hB9)))) | (apply ObsK.p (q := isTup w.heap.size P E) (by rfl) st_isTup; (intro wo hT; (repeat (first | (intro v hv; ((first | (have hcat := hv.out) | (obtain ⟨A7, n7, c7, rfl, o7⟩ := hv) | (obtain ⟨D1, g1, h1', D2, g2, h2', rfl, o13, o14⟩ := hv)))) | (intro _ _ k; try have hcv := cv k))); (have pc := (P6.below hT).cell; have sc := (S6.below hT).cell; have hc := (H6.below hT).cell; have xo := x6.below hT; have oo := (O6.below hT).bs; have yo := y6.below hT; have hsz : w6.heap.size ≤ wo.heap.size := hT.size); refine Goes.mk ?_; go_simp; first | exact goes_v | exact goes_b (by assumption) | (first | exact goes_cat2 (by assumption) (by assumption) (by omega) | exact goes_tup (by assumption) (by assumption) | exact goes_pk (by assumption) (by assumption) | exact goes_new hsz) | (refine goes_enter ?_; first | (go_at_call 49; ((with_reducible refine (hcat wo (Below.refl _ _)).mono ?_); rintro e w9 ⟨A9, n9, c9, rfl, ho9, hB9⟩); rw [HX.out] at ho9; exact ret_p (own_isW ho9 (by omega)) hB9) | (go_at_call 48; ((with_reducible refine (hw2 wo A7 n7 c7 xo o7 (by omega)).mono ?_); rintro e w9 ⟨D1, g1, h1', D2, g2, h2', rfl, o13, o14, hB9⟩); exact ret_tup (P := P) o13 o14 hB9)))) | (apply ObsK.p (q := isPk w.heap.size P) (by rfl) st_isPk; (intro wo hT; (repeat (first | (intro v hv; ((first | (have hcat := hv.out) | (obtain ⟨A7, n7, c7, rfl, o7⟩ := hv) | (obtain ⟨D1, g1, h1', D2, g2, h2', rfl, o13, o14⟩ := hv)))) | (intro _ _ k; try have hcv := cv k))); (have pc := (P6.below hT).cell; have sc := (S6.below hT).cell; have hc := (H6.below hT).cell; have xo := x6.below hT; have oo := (O6.below hT).bs; have yo := y6.below hT; have hsz : w6.heap.size ≤ wo.heap.size := hT.size); refine Goes.mk ?_; go_simp; first | exact goes_v | exact goes_b (by assumption) | (first | exact goes_cat2 (by assumption) (by assumption) (by omega) | exact goes_tup (by assumption) (by assumption) | exact goes_pk (by assumption) (by assumption) | exact goes_new hsz) | (refine goes_enter ?_; first | (go_at_call 49; ((with_reducible refine (hcat wo (Below.refl _ _)).mono ?_); rintro e w9 ⟨A9, n9, c9, rfl, ho9, hB9⟩); rw [HX.out] at ho9; exact ret_p (own_isW ho9 (by omega)) hB9) | (go_at_call 48; ((with_reducible refine (hw2 wo A7 n7 c7 xo o7 (by omega)).mono ?_); rintro e w9 ⟨D1, g1, h1', D2, g2, h2', rfl, o13, o14, hB9⟩); exact ret_tup (P := P) o13 o14 hB9)))) | (apply ObsK.p (q := isNew w6.heap.size #[.int .u8 0, .int .u16 0, .bool false, .int .u8 0, .int .u8 0, .int .u32 0, .int .u32 0, .slice none 0 0, .slice none 0 0] 26) (by rfl) st_isNew; (intro wo hT; (repeat (first | (intro v hv; ((first | (have hcat := hv.out) | (obtain ⟨A7, n7, c7, rfl, o7⟩ := hv) | (obtain ⟨D1, g1, h1', D2, g2, h2', rfl, o13, o14⟩ := hv)))) | (intro _ _ k; try have hcv := cv k))); (have pc := (P6.below hT).cell; have sc := (S6.below hT).cell; have hc := (H6.below hT).cell; have xo := x6.below hT; have oo := (O6.below hT).bs; have yo := y6.below hT; have hsz : w6.heap.size ≤ wo.heap.size := hT.size); refine Goes.mk ?_; go_simp; first | exact goes_v | exact goes_b (by assumption) | (first | exact goes_cat2 (by assumption) (by assumption) (by omega) | exact goes_tup (by assumption) (by assumption) | exact goes_pk (by assumption) (by assumption) | exact goes_new hsz) | (refine goes_enter ?_; first | (go_at_call 49; ((with_reducible refine (hcat wo (Below.refl _ _)).mono ?_); rintro e w9 ⟨A9, n9, c9, rfl, ho9, hB9⟩); rw [HX.out] at ho9; exact ret_p (own_isW ho9 (by omega)) hB9) | (go_at_call 48; ((with_reducible refine (hw2 wo A7 n7 c7 xo o7 (by omega)).mono ?_); rintro e w9 ⟨D1, g1, h1', D2, g2, h2', rfl, o13, o14, hB9⟩); exact ret_tup (P := P) o13 o14 hB9)))))); refine ObsK.nil ?_; intro wz hBz; simp only [finOn, List.drop_succ_cons, List.drop_zero, List.drop_nil]
    rintro v14 ⟨gq, rfl, hgq, Q⟩ v12 ⟨D1, g1, h1', D2, g2, h2', rfl, O13, O14⟩ v11 hv11 v10 hv10 v9 hv9 v8 hv8
    go_simp
    clear hv11 hv10 hv9 hv8
    have Q7 := Q.cell
    have Z7 := Z6.below hBz
    have R7 := R6.trans (hBz.mono r6)
    have qne : k + 1 + 1 ≠ gq := by have := Z6.lt; omega
    by_cases hE0 : E = 0
    · subst hE0
      have hp : P = { p with proto := 6, dat := sL s } := by rw [HP.out]; unfold withP; rw [sL_len, HE.out, if_pos rfl]
      clear HP hw2
      subst hp
      obtain ⟨wf, hwf, Sf⟩ := store9 Q (.int .u8 p.tos) (.int .u16 p.id) (.bool p.keep) (.int .u8 p.ttl) (.int .u8 6) (.int .u32 p.src) (.int .u32 p.dst) (.slice D1 g1 h1') (.slice D2 g2 h2')
      go_wp2_with fail
      have hE : sbE p s = 0 := by unfold sbE; rw [hok, if_pos rfl]; exact HE.out
      have hP : sbP p s = { p with proto := 6, dat := sS p s } := by unfold sbP; rw [if_pos hE]
      have HE1 := Lib.hid hE
      have HP1 := Lib.hid hP
      clear hE hP
      have HS : Hid (put16 (sL s) 16 (psum p 6 (sL s)) = sS p s) := rfl
      have hp' : ({ p with proto := 6, dat := sL s } : Pkt).Ok := by
        obtain ⟨e1, e2, e3, e4, e5, e6⟩ := hp
        exact ⟨e1, e2, e3, ⟨by show (0 : Int) ≤ 6; omega, by show (6 : Int) ≤ 255; omega⟩, e5, e6⟩
      have Qf := Sf.blk
      have O13f := Sf.own O13 (fun a e => O13.ne_blk Q h77 a.block (by rw [e]; rfl))
      have O14f := Sf.own O14 (fun a e => O14.ne_blk Q h77 a.block (by rw [e]; rfl))
      have Zf := Sf.other qne Z7
      have Rf := Sf.bel R7 (by omega)
      have rf := Rf.size
      have g1b : g2 ≤ 140737488400000 := by
        have h1 := O14.len
        rw [sL_len] at h1
        have h2 := okOs_len hok
        unfold sN at h1
        have h3 := kd.len
        omega
      obtain ⟨z, hz⟩ : ∃ z, psum p 6 (sL s) = z := ⟨_, rfl⟩
      have z0 : 0 ≤ z := by rw [← hz]; exact csum_lo _
      have z1 : z ≤ 65535 := by rw [← hz]; exact csum_hi _
      rw [hz] at HS
      have hsum : ∀ W, Bs W D2 g2 h2' (sL s) → Calls Try.prog 51 #[(.agg #[.int .u8 ({ p with proto := 6, dat := sL s }).tos, .int .u16 ({ p with proto := 6, dat := sL s }).id, .bool ({ p with proto := 6, dat := sL s }).keep, .int .u8 ({ p with proto := 6, dat := sL s }).ttl, .int .u8 ({ p with proto := 6, dat := sL s }).proto, .int .u32 ({ p with proto := 6, dat := sL s }).src, .int .u32 ({ p with proto := 6, dat := sL s }).dst, .slice D1 g1 h1', .slice D2 g2 h2']), .int .u8 6, .slice D2 g2 h2'] W fun e w' => e = .returned (.int .u16 z) ∧ Below W.heap.size W w' := fun W bo => by
        have := ssum_any { p with proto := 6, dat := sL s } hp' D1 g1 h1' D2 g2 h2' 6 (by omega) (by omega) D2 g2 h2' (sL s) W bo g1b
        rw [← hz]
        exact this
      clear hwf Sf O13 O14 Q7 hz hp' Q
      refine region_txt 7 (by kernel_rfl) (by kernel_rfl) ?_; (iterate 7 (first | (apply ObsK.skip (by rfl)) | (apply ObsK.v (by rfl); (intro wo hT; (repeat (first | (intro v hv; (skip)) | (intro _ _ k; try have hcv := cv k))); (have qc := (Qf.below hT).cell; have bo := (O14f.below hT).bs; have hsz := hT.size); refine Goes.mk ?_; go_simp; first | exact goes_v | exact goes_b (by assumption) | (refine goes_enter ?_; first | (go_at_call 51; ((with_reducible refine (hsum wo bo).mono ?_); rintro e w9 ⟨rfl, hB9⟩); exact ret_v hB9) | (go_at_call 50; ((with_reducible refine (put16_any D2 g2 h2' (sL s) 16 z z0 z1 wo bo).mono ?_); rintro e w9 ⟨A9, c9, rfl, ho9, hB9⟩); exact ret_p (own_isW (HS.out ▸ ho9) (by omega)) hB9)))) | (apply ObsK.b (by rfl); (intro wo hT; (repeat (first | (intro v hv; (skip)) | (intro _ _ k; try have hcv := cv k))); (have qc := (Qf.below hT).cell; have bo := (O14f.below hT).bs; have hsz := hT.size); refine Goes.mk ?_; go_simp; first | exact goes_v | exact goes_b (by assumption) | (refine goes_enter ?_; first | (go_at_call 51; ((with_reducible refine (hsum wo bo).mono ?_); rintro e w9 ⟨rfl, hB9⟩); exact ret_v hB9) | (go_at_call 50; ((with_reducible refine (put16_any D2 g2 h2' (sL s) 16 z z0 z1 wo bo).mono ?_); rintro e w9 ⟨A9, c9, rfl, ho9, hB9⟩); exact ret_p (own_isW (HS.out ▸ ho9) (by omega)) hB9)))) | (apply ObsK.p (q := isW w.heap.size (sS p s)) (by rfl) st_isW; (intro wo hT; (repeat (first | (intro v hv; (skip)) | (intro _ _ k; try have hcv := cv k))); (have qc := (Qf.below hT).cell; have bo := (O14f.below hT).bs; have hsz := hT.size); refine Goes.mk ?_; go_simp; first | exact goes_v | exact goes_b (by assumption) | (refine goes_enter ?_; first | (go_at_call 51; ((with_reducible refine (hsum wo bo).mono ?_); rintro e w9 ⟨rfl, hB9⟩); exact ret_v hB9) | (go_at_call 50; ((with_reducible refine (put16_any D2 g2 h2' (sL s) 16 z z0 z1 wo bo).mono ?_); rintro e w9 ⟨A9, c9, rfl, ho9, hB9⟩); exact ret_p (own_isW (HS.out ▸ ho9) (by omega)) hB9)))))); refine ObsK.nil ?_; intro wz hBz; simp only [finOn, List.drop_succ_cons, List.drop_zero, List.drop_nil]
      rintro v6 ⟨A9, n9, c9, rfl, O9⟩
      go_simp
      have Q8 := Qf.below hBz
      have Z8 := Zf.below hBz
      have R8 := Rf.trans (hBz.mono rf)
      have O8 := O13f.below hBz
      obtain ⟨wg, hwg, Sg⟩ := store1 Q8 8 (.slice A9 n9 c9)
      simp only [List.setIfInBounds_toArray, List.set_cons_zero, List.set_cons_succ] at Sg
      have qg := Sg.blk.cell
      have Zg := Sg.other qne Z8
      have zg := Zg.cell
      have Og := Sg.own O8 (fun a e => O8.ne_blk Q8 h77 a.block (by rw [e]; rfl))
      have Dg := Sg.own O9 (fun a e => O9.ne_blk Q8 h77 a.block (by rw [e]; rfl))
      have Rg := Sg.bel R8 (by omega)
      have q8 := Q8.cell
      go_wp2_with fail
      obtain ⟨wh, hwh, Sh⟩ := store9 Zg (.int .u8 p.tos) (.int .u16 p.id) (.bool p.keep) (.int .u8 p.ttl) (.int .u8 6) (.int .u32 p.src) (.int .u32 p.dst) (.slice D1 g1 h1') (.slice A9 n9 c9)
      rw [hwh]
      have ph := Sh.blk.cell
      have Oh := Sh.own Og (fun a e => Og.ne_blk Zg h77 a.block (by rw [e]; rfl))
      have Dh := Sh.own Dg (fun a e => Dg.ne_blk Zg h77 a.block (by rw [e]; rfl))
      exact bodyPost_ret (v := .tuple #[.agg #[.int .u8 p.tos, .int .u16 p.id, .bool p.keep, .int .u8 p.ttl, .int .u8 6, .int .u32 p.src, .int .u32 p.dst, .slice D1 g1 h1', .slice A9 n9 c9], .int .i64 0]) (by simp [results, Try.results18, go_sem, ph]) rfl (by rw [HE1.out, HP1.out]; exact ⟨⟨D1, g1, h1', A9, n9, c9, rfl, Oh, Dh, Sh.bel Rg (by omega)⟩⟩)
    · have hE : sbE p s = E := by unfold sbE; rw [hok, if_pos rfl]; exact HE.out
      have hP : sbP p s = zP := by unfold sbP; rw [hE, if_neg hE0]
      have HE1 := Lib.hid hE
      have HP1 := Lib.hid hP
      have e0 : (E == 0) = false := by simpa using hE0
      clear hE hP hE0 hw2 HP HE
      obtain ⟨wf, hwf, Sf⟩ := store9 Q (.int .u8 P.tos) (.int .u16 P.id) (.bool P.keep) (.int .u8 P.ttl) (.int .u8 P.proto) (.int .u32 P.src) (.int .u32 P.dst) (.slice D1 g1 h1') (.slice D2 g2 h2')
      have Zf := Sf.other qne Z7
      have zf := Zf.cell
      have Rf := Sf.bel R7 (by omega)
      go_wp2_with fail
      obtain ⟨wh, hwh, Sh⟩ := store9 Zf (.int .u8 0) (.int .u16 0) (.bool false) (.int .u8 0) (.int .u8 0) (.int .u32 0) (.int .u32 0) (.slice none 0 0) (.slice none 0 0)
      rw [hwh]
      have ph := Sh.blk.cell
      exact bodyPost_ret (v := .tuple #[.agg #[.int .u8 0, .int .u16 0, .bool false, .int .u8 0, .int .u8 0, .int .u32 0, .int .u32 0, .slice none 0 0, .slice none 0 0], .int .i64 E]) (by simp [results, Try.results18, go_sem, ph]) rfl (by rw [HE1.out, HP1.out]; exact wiPost_no (Sh.bel Rf (by omega)))
  · go_wp2_with (first
      | (go_at_call 45; ((with_reducible refine (h4).mono ?_); rintro e w4 hpost); (obtain ⟨rfl, A4, n4, c4, H4, O4, B4, K4⟩ := hpost.out); simp only [List.setIfInBounds_toArray, List.set_cons_zero] at H4; have u4 : 20 = n4 := (by rw [← O4.len]; simp [twos, fours, two, four]); subst u4; have R4 := (R3.trans (hBz.mono (by omega))).trans B4; have P4 := K4 k _ _ h77 (by omega) P3z; have S4 := K4 (k + 1) _ _ h78 (by omega) S3z; have Z4 := K4 (k + 1 + 1) _ _ h77 (by omega) Z3z; have O4' : Own w4 w.heap.size 5 A4 20 c4 (hdSg s) := O4; have s4 := S4.cell; have hl4 := H4.lt; have rs4 := R4.size; have ho := hopts_any w.heap.size w.heap.size (k + 1 + 1 + 1) 77 A4 c4 (hdSg s) w w4 OA on oc s.opts K R4 (Nat.le_refl _) H4 O4' hTs (by omega) (Nat.le_refl _) rs4 rs4)
      | (go_at_call 47; ((with_reducible refine (ho).mono ?_); rintro e w5 hpost5); (obtain ⟨rfl, A5, n5, c5, H5, O5, B5, K5⟩ := hpost5.out); have P5 := K5 k _ _ h77 (by omega) P4; have S5 := K5 (k + 1) _ _ h78 (by omega) S4; have Z5 := K5 (k + 1 + 1) _ _ h77 (by omega) Z4; have R5 := R4.trans B5; rw [hok] at H5; have hc5 := H5.cell; have zc5 := Z5.cell))
    obtain ⟨wf, hwf, Sf⟩ := store9 Z5 (.int .u8 0) (.int .u16 0) (.bool false) (.int .u8 0) (.int .u8 0) (.int .u32 0) (.int .u32 0) (.slice none 0 0) (.slice none 0 0)
    rw [hwf]
    have pf := Sf.blk.cell
    have hE : sbE p s = 4 := by unfold sbE; rw [hok]; rfl
    have hP : sbP p s = zP := by unfold sbP; rw [hE]; rfl
    have HE1 := Lib.hid hE
    have HP1 := Lib.hid hP
    clear hE hP hwf
    exact bodyPost_ret (v := .tuple #[.agg #[.int .u8 0, .int .u16 0, .bool false, .int .u8 0, .int .u8 0, .int .u32 0, .int .u32 0, .slice none 0 0, .slice none 0 0], .int .i64 4]) (by simp [results, Try.results18, go_sem, pf]) rfl (by rw [HE1.out, HP1.out]; exact wiPost_no (Sf.bel R5 (by omega)))
end Go.Proofs.Ytjjhnjkmoogloaa

/- The document's packet with a segment. -/
namespace Go.Proofs.Ytjjhnjkmoogloaa
open Go.RowKit
set_option linter.unusedVariables false
set_option linter.unusedSimpArgs false
set_option linter.unusedSimpArgs false
set_option maxHeartbeats 4000000
set_option maxRecDepth 100000

theorem bs00 (W : World) : Bs (W.alloc (.cells #[.int .u8 0, .int .u8 0] 5)) (some ⟨W.heap.size, 0, none⟩) 2 2 [0, 0] := bs_lit (W := W) (e := 5) [0, 0] 2 rfl (by omega)
theorem own_lt {w : World} {base : Nat} {e : TypeId} {A : Option Addr} {n c : Nat} {l : List UInt8} (h : Own w base e A n c l) {a : Addr} (ha : A = some a) : a.block < w.heap.size := by
  rcases h.row.2 with ⟨hv, _⟩ | ⟨g, cap, cur, hv, _, hg, _⟩
  · injection hv with hv; rw [hv] at ha; cases ha
  · injection hv with hv
    rw [hv] at ha
    injection ha with ha
    subst ha
    exact (Array.getElem?_eq_some_iff.1 hg).1
theorem rsbuild_no (p : Pkt) (X1 : Option Addr) (m1 j1 : Nat) (X2 : Option Addr) (m2 j2 : Nat) (s : Seg) (OA : Option Addr) (on oc : Nat) (DA : Option Addr) (dn dc : Nat) (w : World) (K : Os w OA on oc s.opts) (hok : okOs s.opts = false) :
    Calls Try.prog 19 #[(.agg #[.int .u8 (p).tos, .int .u16 (p).id, .bool (p).keep, .int .u8 (p).ttl, .int .u8 (p).proto, .int .u32 (p).src, .int .u32 (p).dst, .slice X1 m1 j1, .slice X2 m2 j2]), (.agg #[.int .u16 (s).src, .int .u16 (s).dst, .int .u32 (s).seq, .int .u32 (s).ack, .int .u8 (s).flags, .int .u16 (s).win, .int .u16 (s).urg, .slice OA on oc, .slice DA dn dc])] w (WiPost w zP 4) := by
  have hro : ∀ W, Below w.heap.size w W → Calls Try.prog 52 #[.slice OA on oc] W fun e w' => ∃ A n c, e = .returned (.tuple #[.slice A n c, .bool false]) ∧ Below W.heap.size W w' := fun W hB => by
    refine (ropts_any OA on oc s.opts W (K.below hB)).mono ?_
    rintro e w' ⟨A, n, c, rfl, -, hB'⟩
    rw [hok]
    exact ⟨A, n, c, rfl, hB'⟩
  clear hok K
  obtain ⟨k, hk⟩ : ∃ k : Nat, w.heap.size = k := ⟨_, rfl⟩
  obtain ⟨w1, hw1⟩ : ∃ W, (((w.alloc (.cells #[.int .u8 (p).tos, .int .u16 (p).id, .bool (p).keep, .int .u8 (p).ttl, .int .u8 (p).proto, .int .u32 (p).src, .int .u32 (p).dst, .slice X1 m1 j1, .slice X2 m2 j2] 26)).alloc (.cells #[.int .u16 (s).src, .int .u16 (s).dst, .int .u32 (s).seq, .int .u32 (s).ack, .int .u8 (s).flags, .int .u16 (s).win, .int .u16 (s).urg, .slice OA on oc, .slice DA dn dc] 29)).alloc (.cells #[.int .u8 0, .int .u16 0, .bool false, .int .u8 0, .int .u8 0, .int .u32 0, .int .u32 0, .slice none 0 0, .slice none 0 0] 26)) = W := ⟨_, rfl⟩
  have P1 : Blk w1 k #[.int .u8 (p).tos, .int .u16 (p).id, .bool (p).keep, .int .u8 (p).ttl, .int .u8 (p).proto, .int .u32 (p).src, .int .u32 (p).dst, .slice X1 m1 j1, .slice X2 m2 j2] 26 := by rw [← hw1]; exact (((blk_new _ _ _ k (by simp [hk])).alloc _).alloc _)
  have S1 : Blk w1 (k + 1) #[.int .u16 (s).src, .int .u16 (s).dst, .int .u32 (s).seq, .int .u32 (s).ack, .int .u8 (s).flags, .int .u16 (s).win, .int .u16 (s).urg, .slice OA on oc, .slice DA dn dc] 29 := by rw [← hw1]; exact ((blk_new _ _ _ (k + 1) (by simp [hk])).alloc _)
  have Z1 : Blk w1 (k + 1 + 1) #[.int .u8 0, .int .u16 0, .bool false, .int .u8 0, .int .u8 0, .int .u32 0, .int .u32 0, .slice none 0 0, .slice none 0 0] 26 := by rw [← hw1]; exact (blk_new _ _ _ (k + 1 + 1) (by simp [hk]))
  have R1 : Below w.heap.size w w1 := by rw [← hw1]; (repeat (first | with_reducible exact Below.refl _ _ | with_reducible refine below_drew ?_ | with_reducible refine below_drewN ?_ _ | with_reducible refine below_alloc ?_ (Nat.le_refl _) _ | with_reducible refine Below.setCell ?_ (by first | exact Nat.le_refl _ | (simp only []; omega)) _ | with_reducible assumption))
  have Pc1 := P1.cell
  have Sc1 := S1.cell
  have Zc1 := Z1.cell
  have Pl1 := P1.lt
  have Sl1 := S1.lt
  have Zl1 := Z1.lt
  go_enter Try.func19, Try.ntmps19
  go_wp2_with (go_at_call 52; ((with_reducible refine (hro w1 R1).mono ?_); rintro e w2 ⟨A2, n2, c2, rfl, hB2⟩); have P2 := P1.below hB2; have Pc2 := P2.cell; clear Pc1; have S2 := S1.below hB2; have Sc2 := S2.cell; clear Sc1; have Z2 := Z1.below hB2; have Zc2 := Z2.cell; clear Zc1; have R2 := below_then R1 hB2)
  obtain ⟨wh, hwh, Sh⟩ := store9 Z2 (.int .u8 0) (.int .u16 0) (.bool false) (.int .u8 0) (.int .u8 0) (.int .u32 0) (.int .u32 0) (.slice none 0 0) (.slice none 0 0)
  rw [hwh]
  have ph := Sh.blk.cell
  exact bodyPost_ret (by simp [results, Try.results19, go_sem, ph]) rfl (wiPost_no (Sh.bel R2 (by omega)))
theorem sL_of2 (s : Seg) (x : Int) (hx : ((20 + (optL s.opts).length : Nat) : Int) / 4 * 16 = x) : ((((((((([] ++ two s.src) ++ two s.dst) ++ four s.seq) ++ four s.ack) ++ [ub x, ub s.flags]) ++ two s.win) ++ [0, 0]) ++ two s.urg) ++ optL s.opts) ++ s.dat = sL s := by
  subst hx; rfl
theorem rsbuild_yes (p : Pkt) (hp : p.Ok) (X1 : Option Addr) (m1 j1 : Nat) (X2 : Option Addr) (m2 j2 : Nat) (s : Seg) (hs : s.Ok) (OA : Option Addr) (on oc : Nat) (DA : Option Addr) (dn dc : Nat) (w : World) (k1 : Bs w X1 m1 j1 p.opt) (K : Os w OA on oc s.opts) (kd : Bs w DA dn dc s.dat) (hdn : dn ≤ 140737488400000) (hok : okOs s.opts = true) :
    Calls Try.prog 19 #[(.agg #[.int .u8 (p).tos, .int .u16 (p).id, .bool (p).keep, .int .u8 (p).ttl, .int .u8 (p).proto, .int .u32 (p).src, .int .u32 (p).dst, .slice X1 m1 j1, .slice X2 m2 j2]), (.agg #[.int .u16 (s).src, .int .u16 (s).dst, .int .u32 (s).seq, .int .u32 (s).ack, .int .u8 (s).flags, .int .u16 (s).win, .int .u16 (s).urg, .slice OA on oc, .slice DA dn dc])] w (WiPost w (sbP p s) (sbE p s)) := by
  obtain ⟨⟨a0, a1⟩, ⟨d0, d1⟩, ⟨q0, q1⟩, ⟨r0, r1⟩, ⟨f0, f1⟩, ⟨v0, v1⟩, ⟨g0, g1⟩, -⟩ := hs
  have HOK := Lib.hid hok
  obtain ⟨on2, hon2⟩ : ∃ n, (optL s.opts).length = n := ⟨_, rfl⟩
  have ho1 := okOs_len hok
  have ho2 := (optL_len s.opts).2
  rw [hon2] at ho1 ho2
  have bd := kd.max
  have hro : ∀ W, Below w.heap.size w W → Calls Try.prog 52 #[.slice OA on oc] W fun e w' => ∃ A c, e = .returned (.tuple #[.slice A on2 c, .bool true]) ∧ Own w' W.heap.size 5 A on2 c (optL s.opts) ∧ Below W.heap.size W w' := fun W hB => by
    refine (ropts_any OA on oc s.opts W (K.below hB)).mono ?_
    rintro e w' ⟨A, n, c, rfl, ho, hB'⟩
    have h1 := ho hok
    obtain rfl : n = on2 := by rw [← h1.len]; exact hon2
    rw [hok]
    exact ⟨A, c, rfl, h1, hB'⟩
  have hx := sL_of2 s _ rfl
  rw [hon2] at hx
  obtain ⟨x, hxe⟩ : ∃ x, ((20 + on2 : Nat) : Int) / 4 * 16 = x := ⟨_, rfl⟩
  rw [hxe] at hx
  have HX := Lib.hid hx
  have x0 : 0 ≤ x := by omega
  have x1 : x ≤ 255 := by omega
  obtain ⟨y, hy⟩ : ∃ y : Int, 20 + (on2 : Int) = y := ⟨_, rfl⟩
  have y0 : 0 ≤ y := by omega
  have hq0 : IntKind.i64.wrap (20 + (on2 : Int)) = y := by rw [IntKind.wrap_i64]; omega
  obtain ⟨z, hz⟩ : ∃ z : Int, y / 4 = z := ⟨_, rfl⟩
  have hq1 : wrap64 (y.tdiv 4) = z := by rw [Int.tdiv_eq_ediv_of_nonneg y0, hz]; unfold wrap64; omega
  have hq2 : wrap64 (z * 16) = x := by rw [show z * 16 = x from by omega]; unfold wrap64; omega
  have hq3 : x % 256 = x := by omega
  have HZZ := Lib.hid hz
  clear hz
  have hon40 : on2 ≤ 40 := ho1
  have HON := Lib.hid hon2
  have HX2 := Lib.hid hxe
  have HY := Lib.hid hy
  clear hok K hx hxe hy hon2 ho1 ho2
  have LX := fun W => (lit2 (e := 5) x0 x1 f0 f1 W).bs
  obtain ⟨k, hk⟩ : ∃ k : Nat, w.heap.size = k := ⟨_, rfl⟩
  obtain ⟨w1, hw1⟩ : ∃ W, (((w.alloc (.cells #[.int .u8 (p).tos, .int .u16 (p).id, .bool (p).keep, .int .u8 (p).ttl, .int .u8 (p).proto, .int .u32 (p).src, .int .u32 (p).dst, .slice X1 m1 j1, .slice X2 m2 j2] 26)).alloc (.cells #[.int .u16 (s).src, .int .u16 (s).dst, .int .u32 (s).seq, .int .u32 (s).ack, .int .u8 (s).flags, .int .u16 (s).win, .int .u16 (s).urg, .slice OA on oc, .slice DA dn dc] 29)).alloc (.cells #[.int .u8 0, .int .u16 0, .bool false, .int .u8 0, .int .u8 0, .int .u32 0, .int .u32 0, .slice none 0 0, .slice none 0 0] 26)) = W := ⟨_, rfl⟩
  have P1 : Blk w1 k #[.int .u8 (p).tos, .int .u16 (p).id, .bool (p).keep, .int .u8 (p).ttl, .int .u8 (p).proto, .int .u32 (p).src, .int .u32 (p).dst, .slice X1 m1 j1, .slice X2 m2 j2] 26 := by rw [← hw1]; exact (((blk_new _ _ _ k (by simp [hk])).alloc _).alloc _)
  have S1 : Blk w1 (k + 1) #[.int .u16 (s).src, .int .u16 (s).dst, .int .u32 (s).seq, .int .u32 (s).ack, .int .u8 (s).flags, .int .u16 (s).win, .int .u16 (s).urg, .slice OA on oc, .slice DA dn dc] 29 := by rw [← hw1]; exact ((blk_new _ _ _ (k + 1) (by simp [hk])).alloc _)
  have Z1 : Blk w1 (k + 1 + 1) #[.int .u8 0, .int .u16 0, .bool false, .int .u8 0, .int .u8 0, .int .u32 0, .int .u32 0, .slice none 0 0, .slice none 0 0] 26 := by rw [← hw1]; exact (blk_new _ _ _ (k + 1 + 1) (by simp [hk]))
  have R1 : Below w.heap.size w w1 := by rw [← hw1]; (repeat (first | with_reducible exact Below.refl _ _ | with_reducible refine below_drew ?_ | with_reducible refine below_drewN ?_ _ | with_reducible refine below_alloc ?_ (Nat.le_refl _) _ | with_reducible refine Below.setCell ?_ (by first | exact Nat.le_refl _ | (simp only []; omega)) _ | with_reducible assumption))
  have Pc1 := P1.cell
  have Sc1 := S1.cell
  have Zc1 := Z1.cell
  have Pl1 := P1.lt
  have Sl1 := S1.lt
  have Zl1 := Z1.lt
  have xx1 := (k1).below R1
  have yy1 := (kd).below R1
  go_enter Try.func19, Try.ntmps19
  go_wp2_with (go_at_call 52; ((with_reducible refine (hro w1 R1).mono ?_); rintro e w2 ⟨A2, c2, rfl, o2, hB2⟩); have P2 := P1.below hB2; have Pc2 := P2.cell; clear Pc1; have S2 := S1.below hB2; have Sc2 := S2.cell; clear Sc1; have Z2 := Z1.below hB2; have Zc2 := Z2.cell; clear Zc1; have xx2 := xx1.below hB2; have yy2 := yy1.below hB2; have R2 := below_then R1 hB2)
  have o2b := o2.bs
  have hk1 : w.heap.size ≤ k := Nat.le_of_eq hk
  have hk2 : k ≤ w.heap.size := Nat.le_of_eq hk.symm
  clear hk hw1 hro
  refine region_txt 8 (by kernel_rfl) (by kernel_rfl) ?_; (iterate 8 (first | (apply ObsK.skip (by rfl)) | (apply ObsK.v (by rfl); (intro wo hT; (repeat (first | (intro v hv; (fail)) | (intro _ _ k; try have hcv := cv k))); (have sc := (S2.below hT).cell; have hsz : w2.heap.size ≤ wo.heap.size := hT.size); refine Goes.mk ?_; first | (exact goes_app _ _ rfl rfl (own_nil _ w2.heap.size _) rfl (by assumption) (by omega) hsz) | (go_simp; first | exact goes_v | exact goes_b (by assumption) | fail | (refine goes_enter ?_; first | (go_at_call 53; ((with_reducible refine (two_any s.src a0 a1 wo).mono ?_); rintro e w9 ⟨A9, c9, rfl, ho9, hB9⟩); exact ret_b ho9.bs hB9) | (go_at_call 53; ((with_reducible refine (two_any s.dst d0 d1 wo).mono ?_); rintro e w9 ⟨A9, c9, rfl, ho9, hB9⟩); exact ret_b ho9.bs hB9))))) | (apply ObsK.b (by rfl); (intro wo hT; (repeat (first | (intro v hv; (fail)) | (intro _ _ k; try have hcv := cv k))); (have sc := (S2.below hT).cell; have hsz : w2.heap.size ≤ wo.heap.size := hT.size); refine Goes.mk ?_; first | (exact goes_app _ _ rfl rfl (own_nil _ w2.heap.size _) rfl (by assumption) (by omega) hsz) | (go_simp; first | exact goes_v | exact goes_b (by assumption) | fail | (refine goes_enter ?_; first | (go_at_call 53; ((with_reducible refine (two_any s.src a0 a1 wo).mono ?_); rintro e w9 ⟨A9, c9, rfl, ho9, hB9⟩); exact ret_b ho9.bs hB9) | (go_at_call 53; ((with_reducible refine (two_any s.dst d0 d1 wo).mono ?_); rintro e w9 ⟨A9, c9, rfl, ho9, hB9⟩); exact ret_b ho9.bs hB9))))) | (apply ObsK.p (q := isW w2.heap.size ([] ++ two s.src)) (by rfl) st_isW; (intro wo hT; (repeat (first | (intro v hv; (fail)) | (intro _ _ k; try have hcv := cv k))); (have sc := (S2.below hT).cell; have hsz : w2.heap.size ≤ wo.heap.size := hT.size); refine Goes.mk ?_; first | (exact goes_app _ _ rfl rfl (own_nil _ w2.heap.size _) rfl (by assumption) (by omega) hsz) | (go_simp; first | exact goes_v | exact goes_b (by assumption) | fail | (refine goes_enter ?_; first | (go_at_call 53; ((with_reducible refine (two_any s.src a0 a1 wo).mono ?_); rintro e w9 ⟨A9, c9, rfl, ho9, hB9⟩); exact ret_b ho9.bs hB9) | (go_at_call 53; ((with_reducible refine (two_any s.dst d0 d1 wo).mono ?_); rintro e w9 ⟨A9, c9, rfl, ho9, hB9⟩); exact ret_b ho9.bs hB9))))))); refine ObsK.nil ?_; intro wz hBz; simp only [finOn, List.drop_succ_cons, List.drop_zero, List.drop_nil]
  rintro A7 c7 k7 v4 ⟨A4, n4, c4, rfl, O4⟩ A3 c3 k3
  go_simp
  have u4 : n4 = 2 := by rw [← O4.len]; rfl
  subst u4
  have S4 := S2.below hBz
  have sc4 := S4.cell
  clear k3
  go_wp2_with (at_builtin; refine wpList_append_bs (w0 := w2) _ rfl _ _ _ rfl w2.heap.size 5 Try.underlying24 info_u8 A4 2 c4 _ rfl O4 A7 2 c7 (two s.dst) rfl k7 hBz (by omega) (by first | exact Nat.le_refl _ | exact Below.size hBz | omega | (simp <;> omega)) ?_; intro A8 n8 c8 w8 O8 hB8 _ hz8; have u8 : 4 = n8 := (by rw [← O8.len]; rfl); subst u8; (obtain ⟨g8, rfl, ge8, gt8⟩ := O8.ptr (by omega)); have S8 := S2.below hB8; have sc8 := S8.cell)
  have sl8 := S2.lt
  have b8 := hB8.size
  refine regionX 8 [4] g8 (fun c W => match c with | 0 => Own W w2.heap.size 5 (some ⟨g8, 0, none⟩) 4 c8 (([] ++ two s.src) ++ two s.dst) | _ + 1 => True) (by kernel_rfl) (by kernel_rfl) (by kernel_rfl) O8 (fun c W W' hj hb => by cases c with | zero => exact Own.below hj hb | succ n => trivial) ?_; (iterate 8 (first | (apply ObsX.skip (by rfl) (by rfl)) | (apply ObsX.v (by rfl) (by rfl); (intro wo hE; (repeat (first | (intro v hv; ((obtain ⟨Aq, cq, rfl, oq, oq'⟩ := hv))) | (intro _ _ k; try have hcv := cv k))); (have sco := (S8.ext hE (by omega)).cell; have hsz2 := hE.size); refine Goes.mk ?_; first | (exact goes_appX _ _ rfl rfl hj (fun k e => by simp [Value.ownBlock] at e; exact e.symm) rfl oq (by omega) (by omega) (fun _ => trivial)) | (go_simp; first | exact goes_v | fail | (refine goes_enter ?_; first | (go_at_call 54; ((with_reducible refine (four_any s.seq q0 q1 wo).mono ?_); rintro e w9 ⟨A9, c9, rfl, ho9, hB9⟩); exact ret_p ⟨_, _, rfl, ho9.bs, fun a e => ⟨by have := ho9.ge a e; omega, by have := ho9.bs; exact own_lt ho9 e⟩⟩ hB9) | (go_at_call 54; ((with_reducible refine (four_any s.ack r0 r1 wo).mono ?_); rintro e w9 ⟨A9, c9, rfl, ho9, hB9⟩); exact ret_p ⟨_, _, rfl, ho9.bs, fun a e => ⟨by have := ho9.ge a e; omega, own_lt ho9 e⟩⟩ hB9))))) | (apply ObsX.p (q := isN g8 4 (four s.seq)) (by rfl) (by rfl) st_isN sx_isN; (intro wo hE; (repeat (first | (intro v hv; ((obtain ⟨Aq, cq, rfl, oq, oq'⟩ := hv))) | (intro _ _ k; try have hcv := cv k))); (have sco := (S8.ext hE (by omega)).cell; have hsz2 := hE.size); refine Goes.mk ?_; first | (exact goes_appX _ _ rfl rfl hj (fun k e => by simp [Value.ownBlock] at e; exact e.symm) rfl oq (by omega) (by omega) (fun _ => trivial)) | (go_simp; first | exact goes_v | fail | (refine goes_enter ?_; first | (go_at_call 54; ((with_reducible refine (four_any s.seq q0 q1 wo).mono ?_); rintro e w9 ⟨A9, c9, rfl, ho9, hB9⟩); exact ret_p ⟨_, _, rfl, ho9.bs, fun a e => ⟨by have := ho9.ge a e; omega, by have := ho9.bs; exact own_lt ho9 e⟩⟩ hB9) | (go_at_call 54; ((with_reducible refine (four_any s.ack r0 r1 wo).mono ?_); rintro e w9 ⟨A9, c9, rfl, ho9, hB9⟩); exact ret_p ⟨_, _, rfl, ho9.bs, fun a e => ⟨by have := ho9.ge a e; omega, own_lt ho9 e⟩⟩ hB9))))) | (apply ObsX.p (q := isN g8 4 (four s.ack)) (by rfl) (by rfl) st_isN sx_isN; (intro wo hE; (repeat (first | (intro v hv; ((obtain ⟨Aq, cq, rfl, oq, oq'⟩ := hv))) | (intro _ _ k; try have hcv := cv k))); (have sco := (S8.ext hE (by omega)).cell; have hsz2 := hE.size); refine Goes.mk ?_; first | (exact goes_appX _ _ rfl rfl hj (fun k e => by simp [Value.ownBlock] at e; exact e.symm) rfl oq (by omega) (by omega) (fun _ => trivial)) | (go_simp; first | exact goes_v | fail | (refine goes_enter ?_; first | (go_at_call 54; ((with_reducible refine (four_any s.seq q0 q1 wo).mono ?_); rintro e w9 ⟨A9, c9, rfl, ho9, hB9⟩); exact ret_p ⟨_, _, rfl, ho9.bs, fun a e => ⟨by have := ho9.ge a e; omega, by have := ho9.bs; exact own_lt ho9 e⟩⟩ hB9) | (go_at_call 54; ((with_reducible refine (four_any s.ack r0 r1 wo).mono ?_); rintro e w9 ⟨A9, c9, rfl, ho9, hB9⟩); exact ret_p ⟨_, _, rfl, ho9.bs, fun a e => ⟨by have := ho9.ge a e; omega, own_lt ho9 e⟩⟩ hB9))))) | (apply ObsX.ev (by rfl) (by rfl); (intro wo hE hj; (repeat (first | (intro v hv; ((obtain ⟨Aq, cq, rfl, oq, oq'⟩ := hv))) | (intro _ _ k; try have hcv := cv k))); (have sco := (S8.ext hE (by omega)).cell; have hsz2 := hE.size); refine GoesX.mk ?_; first | (exact goes_appX _ _ rfl rfl hj (fun k e => by simp [Value.ownBlock] at e; exact e.symm) rfl oq (by omega) (by omega) (fun _ => trivial)) | (go_simp; first | exact goes_v | fail | (refine goes_enter ?_; first | (go_at_call 54; ((with_reducible refine (four_any s.seq q0 q1 wo).mono ?_); rintro e w9 ⟨A9, c9, rfl, ho9, hB9⟩); exact ret_p ⟨_, _, rfl, ho9.bs, fun a e => ⟨by have := ho9.ge a e; omega, by have := ho9.bs; exact own_lt ho9 e⟩⟩ hB9) | (go_at_call 54; ((with_reducible refine (four_any s.ack r0 r1 wo).mono ?_); rintro e w9 ⟨A9, c9, rfl, ho9, hB9⟩); exact ret_p ⟨_, _, rfl, ho9.bs, fun a e => ⟨by have := ho9.ge a e; omega, own_lt ho9 e⟩⟩ hB9))))) | (apply ObsX.ep (q := isN g8 4 (four s.seq)) (by rfl) (by rfl) (by rfl) st_isN; (intro wo hE hj; (repeat (first | (intro v hv; ((obtain ⟨Aq, cq, rfl, oq, oq'⟩ := hv))) | (intro _ _ k; try have hcv := cv k))); (have sco := (S8.ext hE (by omega)).cell; have hsz2 := hE.size); refine GoesX.mk ?_; first | (exact goes_appX _ _ rfl rfl hj (fun k e => by simp [Value.ownBlock] at e; exact e.symm) rfl oq (by omega) (by omega) (fun _ => trivial)) | (go_simp; first | exact goes_v | fail | (refine goes_enter ?_; first | (go_at_call 54; ((with_reducible refine (four_any s.seq q0 q1 wo).mono ?_); rintro e w9 ⟨A9, c9, rfl, ho9, hB9⟩); exact ret_p ⟨_, _, rfl, ho9.bs, fun a e => ⟨by have := ho9.ge a e; omega, by have := ho9.bs; exact own_lt ho9 e⟩⟩ hB9) | (go_at_call 54; ((with_reducible refine (four_any s.ack r0 r1 wo).mono ?_); rintro e w9 ⟨A9, c9, rfl, ho9, hB9⟩); exact ret_p ⟨_, _, rfl, ho9.bs, fun a e => ⟨by have := ho9.ge a e; omega, own_lt ho9 e⟩⟩ hB9))))) | (apply ObsX.ep (q := isW w2.heap.size ((([] ++ two s.src) ++ two s.dst) ++ four s.seq)) (by rfl) (by rfl) (by rfl) st_isW; (intro wo hE hj; (repeat (first | (intro v hv; ((obtain ⟨Aq, cq, rfl, oq, oq'⟩ := hv))) | (intro _ _ k; try have hcv := cv k))); (have sco := (S8.ext hE (by omega)).cell; have hsz2 := hE.size); refine GoesX.mk ?_; first | (exact goes_appX _ _ rfl rfl hj (fun k e => by simp [Value.ownBlock] at e; exact e.symm) rfl oq (by omega) (by omega) (fun _ => trivial)) | (go_simp; first | exact goes_v | fail | (refine goes_enter ?_; first | (go_at_call 54; ((with_reducible refine (four_any s.seq q0 q1 wo).mono ?_); rintro e w9 ⟨A9, c9, rfl, ho9, hB9⟩); exact ret_p ⟨_, _, rfl, ho9.bs, fun a e => ⟨by have := ho9.ge a e; omega, by have := ho9.bs; exact own_lt ho9 e⟩⟩ hB9) | (go_at_call 54; ((with_reducible refine (four_any s.ack r0 r1 wo).mono ?_); rintro e w9 ⟨A9, c9, rfl, ho9, hB9⟩); exact ret_p ⟨_, _, rfl, ho9.bs, fun a e => ⟨by have := ho9.ge a e; omega, own_lt ho9 e⟩⟩ hB9))))) | (apply ObsX.ep (q := isN g8 4 (four s.ack)) (by rfl) (by rfl) (by rfl) st_isN; (intro wo hE hj; (repeat (first | (intro v hv; ((obtain ⟨Aq, cq, rfl, oq, oq'⟩ := hv))) | (intro _ _ k; try have hcv := cv k))); (have sco := (S8.ext hE (by omega)).cell; have hsz2 := hE.size); refine GoesX.mk ?_; first | (exact goes_appX _ _ rfl rfl hj (fun k e => by simp [Value.ownBlock] at e; exact e.symm) rfl oq (by omega) (by omega) (fun _ => trivial)) | (go_simp; first | exact goes_v | fail | (refine goes_enter ?_; first | (go_at_call 54; ((with_reducible refine (four_any s.seq q0 q1 wo).mono ?_); rintro e w9 ⟨A9, c9, rfl, ho9, hB9⟩); exact ret_p ⟨_, _, rfl, ho9.bs, fun a e => ⟨by have := ho9.ge a e; omega, by have := ho9.bs; exact own_lt ho9 e⟩⟩ hB9) | (go_at_call 54; ((with_reducible refine (four_any s.ack r0 r1 wo).mono ?_); rintro e w9 ⟨A9, c9, rfl, ho9, hB9⟩); exact ret_p ⟨_, _, rfl, ho9.bs, fun a e => ⟨by have := ho9.ge a e; omega, own_lt ho9 e⟩⟩ hB9))))))); refine ObsX.nil ?_; intro wz hEz hJz; simp only [finOn, List.drop_succ_cons, List.drop_zero, List.drop_nil]
  rintro v12 ⟨A12, c12, rfl, k12, -⟩ v10 ⟨A10, n10, c10, rfl, O10⟩ v9 hv9
  clear hv9
  go_simp
  have u10 : n10 = 8 := by rw [← O10.len]; rfl
  subst u10
  have hBy := below_ext hB8 hEz (by omega) hB8.size
  have S10 := S2.below hBy
  have sc10 := S10.cell
  clear sc8 sc4
  go_wp2_with (first
    | (at_builtin; refine wpList_append_bs (w0 := w2) _ rfl _ _ _ rfl w2.heap.size 5 Try.underlying24 info_u8 A10 8 c10 _ rfl O10 A12 4 c12 (four s.ack) rfl k12 hBy (by omega) (by first | exact Nat.le_refl _ | exact Below.size hBy | omega | (simp <;> omega)) ?_; intro A14 n14 c14 w14 O14 hB14 _ hz14; have u14 : 12 = n14 := (by rw [← O14.len]; rfl); subst u14; have S14 := S2.below hB14; have sc14 := S14.cell)
    | (at_builtin; refine wpList_append_bs (w0 := w2) _ rfl _ _ _ rfl w2.heap.size 5 Try.underlying24 info_u8 A14 12 c14 _ rfl (O14.alloc _) (some ⟨_, 0, none⟩) 2 2 _ rfl (LX w14) (hB14.alloc hB14.size _) (by omega) (by first | exact Nat.le_refl _ | exact Below.size (hB14.alloc hB14.size _) | omega | (simp <;> omega)) ?_; intro A15 n15 c15 w15 O15 hB15 _ hz15; have u15 : 14 = n15 := (by rw [← O15.len]; rfl); subst u15; have S15 := S2.below hB15; have sc15 := S15.cell)
    | (go_at_call 53; ((with_reducible refine (two_any s.win v0 v1 w15).mono ?_); rintro e w16 ⟨A16, c16, rfl, o16, hB16⟩); have O15' := O15.below hB16; have T16 := below_then hB15 hB16)
    | (at_builtin; refine wpList_append_bs (w0 := w2) _ rfl _ _ _ rfl w2.heap.size 5 Try.underlying24 info_u8 A15 14 c15 _ rfl O15' A16 2 c16 (two s.win) rfl o16.bs T16 (by omega) (by first | exact Nat.le_refl _ | exact Below.size T16 | omega | (simp <;> omega)) ?_; intro A17 n17 c17 w17 O17 hB17 _ hz17; have u17 : 16 = n17 := (by rw [← O17.len]; rfl); subst u17)
    | (at_builtin; refine wpList_append_bs (w0 := w2) _ rfl _ _ _ rfl w2.heap.size 5 Try.underlying24 info_u8 A17 16 c17 _ rfl (O17.alloc _) (some ⟨_, 0, none⟩) 2 2 _ rfl (bs00 w17) (hB17.alloc hB17.size _) (by omega) (by first | exact Nat.le_refl _ | exact Below.size (hB17.alloc hB17.size _) | omega | (simp <;> omega)) ?_; intro A18 n18 c18 w18 O18 hB18 _ hz18; have u18 : 18 = n18 := (by rw [← O18.len]; rfl); subst u18; have S18 := S2.below hB18; have sc18 := S18.cell)
    | (go_at_call 53; ((with_reducible refine (two_any s.urg g0 g1 w18).mono ?_); rintro e w19 ⟨A19, c19, rfl, o19, hB19⟩); have O18' := O18.below hB19; have T19 := below_then hB18 hB19)
    | (at_builtin; refine wpList_append_bs (w0 := w2) _ rfl _ _ _ rfl w2.heap.size 5 Try.underlying24 info_u8 A18 18 c18 _ rfl O18' A19 2 c19 (two s.urg) rfl o19.bs T19 (by omega) (by first | exact Nat.le_refl _ | exact Below.size T19 | omega | (simp <;> omega)) ?_; intro A20 n20 c20 w20 O20 hB20 _ hz20; have u20 : 20 = n20 := (by rw [← O20.len]; rfl); subst u20; have o20 := o2b.below hB20)
    | (at_builtin; refine wpList_append_bs (w0 := w2) _ rfl _ _ _ rfl w2.heap.size 5 Try.underlying24 info_u8 A20 20 c20 _ rfl O20 A2 on2 c2 _ rfl o20 hB20 (by omega) (by first | exact Nat.le_refl _ | exact Below.size hB20 | omega | (simp <;> omega)) ?_; intro A21 n21 c21 w21 O21 hB21 _ hz21; have S21 := S2.below hB21; have sc21 := S21.cell; have d21 := yy2.below hB21; have u21 : n21 ≤ 60 := (by have h1 := O21.len; have h2 := HON.out; rw [List.length_append] at h1; have h3 := O20.len; omega))
    | (at_builtin; refine wpList_append_bs (w0 := w2) _ rfl _ _ _ rfl w2.heap.size 5 Try.underlying24 info_u8 A21 n21 c21 _ rfl O21 DA dn dc _ rfl d21 hB21 (by omega) (by first | exact Nat.le_refl _ | exact Below.size hB21 | omega | (simp <;> omega)) ?_; intro A22 n22 c22 w22 O22 hB22 _ hz22; rw [HX.out] at O22; have P22 := P2.below hB22; have pc22 := P22.cell; have Z22 := Z2.below hB22))
  have xx22 := xx2.below hB22
  have R22 := below_then R2 hB22
  have hN : n22 = sN s := by rw [← O22.len, sL_len]
  have hsE : sbE p s = wiE p n22 := by unfold sbE; rw [HOK.out, if_pos rfl, hN]
  have l1 := k1.len
  have b22 := R22.size
  by_cases hbad : 40 < (m1 : Int) ∨ m1 % 4 ≠ 0
  · have HE : Hid (sbE p s = 4) := by unfold Hid; rw [hsE]; exact wiE_4 l1 hbad
    have HP : Hid (sbP p s = zP) := by unfold Hid sbP; rw [HE.out]; rfl
    have hw0 : ∀ W, Bs W X1 m1 j1 p.opt → Calls Try.prog 55 #[(.agg #[.int .u8 (p).tos, .int .u16 (p).id, .bool (p).keep, .int .u8 (p).ttl, .int .u8 (p).proto, .int .u32 (p).src, .int .u32 (p).dst, .slice X1 m1 j1, .slice X2 m2 j2]), .int .u8 6, .slice none 0 0] W (fun e w' => ∃ C1 e1 f1 C2 e2 f2, e = .returned (.tuple #[.agg #[.int .u8 0, .int .u16 0, .bool false, .int .u8 0, .int .u8 0, .int .u32 0, .int .u32 0, .slice C1 e1 f1, .slice C2 e2 f2], .int .i64 4]) ∧ Own w' W.heap.size 5 C1 e1 f1 [] ∧ Own w' W.heap.size 5 C2 e2 f2 [] ∧ Below W.heap.size W w') := fun W kk => by
      have hh := rwith_any p X1 m1 j1 X2 m2 j2 6 none 0 0 [] W kk (Bs.none_ W)
      unfold withP at hh
      rw [wiE_4 l1 hbad, if_neg (by decide)] at hh
      exact hh.mono fun e w' hq => hq.out
    clear hbad hN hsE l1 hp
    go_wp2_with (go_at_call 55; ((with_reducible refine (hw0 w22 xx22).mono ?_); rintro e w23 ⟨C1, e1, f1, C2, e2, f2, rfl, O1, O2, hB23⟩); (obtain ⟨w24, hw24⟩ : ∃ W, w23.alloc (.cells #[.int .u8 0, .int .u16 0, .bool false, .int .u8 0, .int .u8 0, .int .u32 0, .int .u32 0, .slice C1 e1 f1, .slice C2 e2 f2] 26) = W := ⟨_, rfl⟩); have V24 : Below w23.heap.size w23 w24 := (by rw [← hw24]; (repeat (first | with_reducible exact Below.refl _ _ | with_reducible refine below_drew ?_ | with_reducible refine below_drewN ?_ _ | with_reducible refine below_alloc ?_ (Nat.le_refl _) _ | with_reducible refine Below.setCell ?_ (by first | exact Nat.le_refl _ | (simp only []; omega)) _ | with_reducible assumption))); have T24 := below_then hB23 V24; have Q24 : Blk w24 w23.heap.size #[.int .u8 0, .int .u16 0, .bool false, .int .u8 0, .int .u8 0, .int .u32 0, .int .u32 0, .slice C1 e1 f1, .slice C2 e2 f2] 26 := (by rw [← hw24]; exact blk_new w23 _ _ _ rfl); have qc24 := Q24.cell; have P24 := P22.below T24; have pc24 := P24.cell; have Z24 := Z22.below T24; have zc24 := Z24.cell; have O24 := O22.below T24)
    obtain ⟨wf, hwf, Sf⟩ := store9 Z24 (.int .u8 0) (.int .u16 0) (.bool false) (.int .u8 0) (.int .u8 0) (.int .u32 0) (.int .u32 0) (.slice none 0 0) (.slice none 0 0)
    rw [hwf]
    have pf := Sf.blk.cell
    exact bodyPost_ret (v := .tuple #[.agg #[.int .u8 0, .int .u16 0, .bool false, .int .u8 0, .int .u8 0, .int .u32 0, .int .u32 0, .slice none 0 0, .slice none 0 0], .int .i64 4]) (by simp [results, Try.results19, go_sem, pf]) rfl (by rw [HE.out, HP.out]; exact wiPost_no (Sf.bel (below_then R22 T24) (by omega)))
  · have h1 : (m1 : Int) ≤ 40 := by omega
    have h2 : m1 % 4 = 0 := by omega
    have hw0 : ∀ W, Bs W X1 m1 j1 p.opt → Calls Try.prog 55 #[(.agg #[.int .u8 (p).tos, .int .u16 (p).id, .bool (p).keep, .int .u8 (p).ttl, .int .u8 (p).proto, .int .u32 (p).src, .int .u32 (p).dst, .slice X1 m1 j1, .slice X2 m2 j2]), .int .u8 6, .slice none 0 0] W (fun e w' => ∃ C1 e1 f1 C2 e2 f2, e = .returned (.tuple #[.agg #[.int .u8 p.tos, .int .u16 p.id, .bool p.keep, .int .u8 p.ttl, .int .u8 6, .int .u32 p.src, .int .u32 p.dst, .slice C1 e1 f1, .slice C2 e2 f2], .int .i64 0]) ∧ Own w' W.heap.size 5 C1 e1 f1 p.opt ∧ Own w' W.heap.size 5 C2 e2 f2 [] ∧ Below W.heap.size W w') := fun W kk => by
      have hh := rwith_any p X1 m1 j1 X2 m2 j2 6 none 0 0 [] W kk (Bs.none_ W)
      unfold withP at hh
      rw [show ([] : List UInt8).length = 0 from rfl, wiE_0 l1 h1 h2 (by omega), if_pos rfl] at hh
      exact hh.mono fun e w' hq => hq.out
    have ho1 : ∀ w' C1 e1 f1, Own w' w22.heap.size 5 C1 e1 f1 p.opt → m1 = e1 := fun w' C1 e1 f1 h => by rw [← h.len]; exact l1.symm
    by_cases h3 : 20 + (m1 : Int) + (n22 : Int) ≤ 65535
    · have HE : Hid (sbE p s = 0) := by unfold Hid; rw [hsE]; exact wiE_0 l1 h1 h2 (by omega)
      have HP : Hid (sbP p s = { p with proto := 6, dat := sS p s }) := by unfold Hid sbP; rw [if_pos HE.out]
      have HS : Hid (put16 (sL s) 16 (psum p 6 (sL s)) = sS p s) := rfl
      obtain ⟨zz, hzz⟩ : ∃ z, psum p 6 (sL s) = z := ⟨_, rfl⟩
      have zz0 : 0 ≤ zz := by rw [← hzz]; exact csum_lo _
      have zz1 : zz ≤ 65535 := by rw [← hzz]; exact csum_hi _
      rw [hzz] at HS
      have hsum : ∀ W, Bs W A22 n22 c22 (sL s) → Calls Try.prog 41 #[(.agg #[.int .u8 (p).tos, .int .u16 (p).id, .bool (p).keep, .int .u8 (p).ttl, .int .u8 (p).proto, .int .u32 (p).src, .int .u32 (p).dst, .slice X1 m1 j1, .slice X2 m2 j2]), .int .u8 6, .slice A22 n22 c22] W fun e w' => e = .returned (.int .u16 zz) ∧ Below W.heap.size W w' := fun W bo => by
        have := rssum_any p hp X1 m1 j1 X2 m2 j2 6 (by omega) (by omega) A22 n22 c22 (sL s) W bo (by omega)
        rw [← hzz]
        exact this
      have hw1' : ∀ W A n c, Bs W X1 m1 j1 p.opt → Bs W A n c (sS p s) → Calls Try.prog 55 #[(.agg #[.int .u8 (p).tos, .int .u16 (p).id, .bool (p).keep, .int .u8 (p).ttl, .int .u8 (p).proto, .int .u32 (p).src, .int .u32 (p).dst, .slice X1 m1 j1, .slice X2 m2 j2]), .int .u8 6, .slice A n c] W (fun e w' => ∃ C1 e1 f1 C2 e2 f2, e = .returned (.tuple #[.agg #[.int .u8 p.tos, .int .u16 p.id, .bool p.keep, .int .u8 p.ttl, .int .u8 6, .int .u32 p.src, .int .u32 p.dst, .slice C1 e1 f1, .slice C2 e2 f2], .int .i64 0]) ∧ Own w' W.heap.size 5 C1 e1 f1 p.opt ∧ Own w' W.heap.size 5 C2 e2 f2 (sS p s) ∧ Below W.heap.size W w') := fun W A n c kk ks => by
        have hh := rwith_any p X1 m1 j1 X2 m2 j2 6 A n c (sS p s) W kk ks
        unfold withP at hh
        rw [sS_len, ← hN, wiE_0 l1 h1 h2 (by omega), if_pos rfl] at hh
        exact hh.mono fun e w' hq => hq.out
      clear hbad hN hsE l1 hp hzz
      go_wp2_with (first
        | (go_at_call 55; ((with_reducible refine (hw0 w22 xx22).mono ?_); rintro e w23 ⟨C1, e1, f1, C2, e2, f2, rfl, O1, O2, hB23⟩); have ue := ho1 _ _ _ _ O1; subst ue; (obtain ⟨w24, hw24⟩ : ∃ W, w23.alloc (.cells #[.int .u8 p.tos, .int .u16 p.id, .bool p.keep, .int .u8 p.ttl, .int .u8 6, .int .u32 p.src, .int .u32 p.dst, .slice C1 m1 f1, .slice C2 e2 f2] 26) = W := ⟨_, rfl⟩); have V24 : Below w23.heap.size w23 w24 := (by rw [← hw24]; (repeat (first | with_reducible exact Below.refl _ _ | with_reducible refine below_drew ?_ | with_reducible refine below_drewN ?_ _ | with_reducible refine below_alloc ?_ (Nat.le_refl _) _ | with_reducible refine Below.setCell ?_ (by first | exact Nat.le_refl _ | (simp only []; omega)) _ | with_reducible assumption))); have T24 := below_then hB23 V24; have Q24 : Blk w24 w23.heap.size #[.int .u8 p.tos, .int .u16 p.id, .bool p.keep, .int .u8 p.ttl, .int .u8 6, .int .u32 p.src, .int .u32 p.dst, .slice C1 m1 f1, .slice C2 e2 f2] 26 := (by rw [← hw24]; exact blk_new w23 _ _ _ rfl); have qc24 := Q24.cell; have P24 := P22.below T24; have pc24 := P24.cell; have Z24 := Z22.below T24; have zc24 := Z24.cell; have O24 := O22.below T24; have O24b := O24.bs; have P25 := P22.below T24)
        | (go_at_call 41; ((with_reducible refine (hsum w24 O24b).mono ?_); rintro e w25 ⟨rfl, hB25⟩); have T25 := below_then T24 hB25; have P25 := P22.below T25; have pc25 := P25.cell; have O25 := (O24.below hB25).bs)
        | (go_at_call 56; ((with_reducible refine (rput16_any A22 n22 c22 (sL s) 16 zz zz0 zz1 _ O25).mono ?_); rintro e w26 ⟨A26, c26, rfl, O26, hB26⟩); rw [HS.out] at O26; have O26b := O26.bs; have T26 := below_then T25 hB26; have P26 := P22.below T26; have pc26 := P26.cell; have xx26 := xx22.below T26)
        | (go_at_call 55; ((with_reducible refine (hw1' w26 A26 n22 c26 xx26 O26b).mono ?_); rintro e w27 ⟨D1, g1', h1', D2, g2', h2', rfl, O13, O14, hB27⟩); have T27 := below_then T26 hB27; have Z27 := Z22.below T27; have zc27 := Z27.cell))
      obtain ⟨wf, hwf, Sf⟩ := store9 Z27 (.int .u8 p.tos) (.int .u16 p.id) (.bool p.keep) (.int .u8 p.ttl) (.int .u8 6) (.int .u32 p.src) (.int .u32 p.dst) (.slice D1 g1' h1') (.slice D2 g2' h2')
      rw [hwf]
      have pf := Sf.blk.cell
      have z22 := Z22.lt
      have t26 := T26.size
      have Of := Sf.own O13 (fun a e => by have := O13.ge a e; omega)
      have Df := Sf.own O14 (fun a e => by have := O14.ge a e; omega)
      exact bodyPost_ret (v := .tuple #[.agg #[.int .u8 p.tos, .int .u16 p.id, .bool p.keep, .int .u8 p.ttl, .int .u8 6, .int .u32 p.src, .int .u32 p.dst, .slice D1 g1' h1', .slice D2 g2' h2'], .int .i64 0]) (by simp [results, Try.results19, go_sem, pf]) rfl (by rw [HE.out, HP.out]; exact ⟨⟨D1, g1', h1', D2, g2', h2', rfl, Of.mono (by omega), Df.mono (by omega), Sf.bel (below_then R22 T27) (by omega)⟩⟩)
    · have HE : Hid (sbE p s = 8) := by unfold Hid; rw [hsE]; exact wiE_8 l1 h1 h2 (by omega)
      have HP : Hid (sbP p s = zP) := by unfold Hid sbP; rw [HE.out]; rfl
      have h3' : 65535 < 20 + (m1 : Int) + (n22 : Int) := by omega
      have n22b : n22 ≤ 200000000000000 := O22.max
      clear hbad hN hsE l1 hp h3
      go_wp2_with (go_at_call 55; ((with_reducible refine (hw0 w22 xx22).mono ?_); rintro e w23 ⟨C1, e1, f1, C2, e2, f2, rfl, O1, O2, hB23⟩); have ue := ho1 _ _ _ _ O1; subst ue; (obtain ⟨w24, hw24⟩ : ∃ W, w23.alloc (.cells #[.int .u8 p.tos, .int .u16 p.id, .bool p.keep, .int .u8 p.ttl, .int .u8 6, .int .u32 p.src, .int .u32 p.dst, .slice C1 m1 f1, .slice C2 e2 f2] 26) = W := ⟨_, rfl⟩); have V24 : Below w23.heap.size w23 w24 := (by rw [← hw24]; (repeat (first | with_reducible exact Below.refl _ _ | with_reducible refine below_drew ?_ | with_reducible refine below_drewN ?_ _ | with_reducible refine below_alloc ?_ (Nat.le_refl _) _ | with_reducible refine Below.setCell ?_ (by first | exact Nat.le_refl _ | (simp only []; omega)) _ | with_reducible assumption))); have T24 := below_then hB23 V24; have Q24 : Blk w24 w23.heap.size #[.int .u8 p.tos, .int .u16 p.id, .bool p.keep, .int .u8 p.ttl, .int .u8 6, .int .u32 p.src, .int .u32 p.dst, .slice C1 m1 f1, .slice C2 e2 f2] 26 := (by rw [← hw24]; exact blk_new w23 _ _ _ rfl); have qc24 := Q24.cell; have P24 := P22.below T24; have pc24 := P24.cell; have Z24 := Z22.below T24; have zc24 := Z24.cell; have O24 := O22.below T24; have O24b := O24.bs)
      obtain ⟨wf, hwf, Sf⟩ := store9 Z24 (.int .u8 0) (.int .u16 0) (.bool false) (.int .u8 0) (.int .u8 0) (.int .u32 0) (.int .u32 0) (.slice none 0 0) (.slice none 0 0)
      rw [hwf]
      have pf := Sf.blk.cell
      exact bodyPost_ret (v := .tuple #[.agg #[.int .u8 0, .int .u16 0, .bool false, .int .u8 0, .int .u8 0, .int .u32 0, .int .u32 0, .slice none 0 0, .slice none 0 0], .int .i64 8]) (by simp [results, Try.results19, go_sem, pf]) rfl (by rw [HE.out, HP.out]; exact wiPost_no (Sf.bel (below_then R22 T24) (by omega)))
theorem rsbuild_any (p : Pkt) (hp : p.Ok) (X1 : Option Addr) (m1 j1 : Nat) (X2 : Option Addr) (m2 j2 : Nat) (s : Seg) (hs : s.Ok) (OA : Option Addr) (on oc : Nat) (DA : Option Addr) (dn dc : Nat) (w : World) (k1 : Bs w X1 m1 j1 p.opt) (K : Os w OA on oc s.opts) (kd : Bs w DA dn dc s.dat) (hdn : dn ≤ 140737488400000) :
    Calls Try.prog 19 #[(.agg #[.int .u8 (p).tos, .int .u16 (p).id, .bool (p).keep, .int .u8 (p).ttl, .int .u8 (p).proto, .int .u32 (p).src, .int .u32 (p).dst, .slice X1 m1 j1, .slice X2 m2 j2]), (.agg #[.int .u16 (s).src, .int .u16 (s).dst, .int .u32 (s).seq, .int .u32 (s).ack, .int .u8 (s).flags, .int .u16 (s).win, .int .u16 (s).urg, .slice OA on oc, .slice DA dn dc])] w (WiPost w (sbP p s) (sbE p s)) := by
  rcases Bool.eq_false_or_eq_true (okOs s.opts) with hok | hok
  · exact rsbuild_yes p hp X1 m1 j1 X2 m2 j2 s hs OA on oc DA dn dc w k1 K kd hdn hok
  · have hE : sbE p s = 4 := by unfold sbE; rw [hok]; rfl
    have hP : sbP p s = zP := by unfold sbP; rw [hE]; rfl
    rw [hE, hP]
    exact rsbuild_no p X1 m1 j1 X2 m2 j2 s OA on oc DA dn dc w K hok
end Go.Proofs.Ytjjhnjkmoogloaa

/- Datagrams: the same; parsed. -/
namespace Go.Proofs.Ytjjhnjkmoogloaa
open Go.RowKit
set_option linter.unusedVariables false
set_option linter.unusedSimpArgs false
set_option linter.unusedSimpArgs false
set_option maxHeartbeats 4000000
set_option maxRecDepth 100000

theorem dsame_any (m n : Dgm) (A1 : Option Addr) (n1 c1 : Nat) (B1 : Option Addr) (m1 d1 : Nat) (w : World) (k1 : Bs w A1 n1 c1 m.dat) (j1 : Bs w B1 m1 d1 n.dat) :
    Calls Try.prog 32 #[(.agg #[.int .u16 (m).src, .int .u16 (m).dst, .bool (m).bare, .slice A1 n1 c1]), (.agg #[.int .u16 (n).src, .int .u16 (n).dst, .bool (n).bare, .slice B1 m1 d1])] w fun e w' => e = .returned (.bool (sameD m n)) ∧ Below w.heap.size w w' := by
  go_enter Try.func32, Try.ntmps32
  go_wp2_with (go_at_call 63; ((with_reducible refine (bequalS_any A1 n1 c1 m.dat B1 m1 d1 n.dat _ ((k1.alloc _).alloc _) ((j1.alloc _).alloc _)).mono ?_); rintro e w1 ⟨rfl, rfl⟩))
  all_goals go_ret
  all_goals refine ⟨?_, by (repeat (first | with_reducible exact Below.refl _ _ | with_reducible refine below_drew ?_ | with_reducible refine below_drewN ?_ _ | with_reducible refine below_alloc ?_ (Nat.le_refl _) _ | with_reducible refine Below.setCell ?_ (by first | exact Nat.le_refl _ | (simp only []; omega)) _ | with_reducible assumption))⟩
  all_goals simp_all [sameD]
theorem rdsame_any (m n : Dgm) (A1 : Option Addr) (n1 c1 : Nat) (B1 : Option Addr) (m1 d1 : Nat) (w : World) (k1 : Bs w A1 n1 c1 m.dat) (j1 : Bs w B1 m1 d1 n.dat) :
    Calls Try.prog 29 #[(.agg #[.int .u16 (m).src, .int .u16 (m).dst, .bool (m).bare, .slice A1 n1 c1]), (.agg #[.int .u16 (n).src, .int .u16 (n).dst, .bool (n).bare, .slice B1 m1 d1])] w fun e w' => e = .returned (.bool (sameD m n)) ∧ Below w.heap.size w w' := by
  have x1 := fun o o' => cv ((k1.alloc o).alloc o')
  have y1 := fun o o' => cv ((j1.alloc o).alloc o')
  have s1 := str_beqS m.dat n.dat
  go_enter Try.func29, Try.ntmps29
  go_wp2_with fail
  all_goals go_ret
  all_goals refine ⟨?_, by (repeat (first | with_reducible exact Below.refl _ _ | with_reducible refine below_drew ?_ | with_reducible refine below_drewN ?_ _ | with_reducible refine below_alloc ?_ (Nat.le_refl _) _ | with_reducible refine Below.setCell ?_ (by first | exact Nat.le_refl _ | (simp only []; omega)) _ | with_reducible assumption))⟩
  all_goals simp_all [sameD]
def udE (p : Pkt) : Int := if p.proto ≠ 17 then 12 else if p.dat.length < 8 then 3 else if get16 p.dat 4 ≠ p.dat.length then 4 else if get16 p.dat 6 ≠ 0 ∧ psum p 17 p.dat ≠ 0 then 5 else 0
def rdD (l : List UInt8) : Dgm := ⟨get16 l 0, get16 l 2, get16 l 6 == 0, l.drop 8⟩
def udD (p : Pkt) : Dgm := if udE p = 0 then rdD p.dat else zD
structure DgPost (w : World) (D : Dgm) (E : Int) (e : Ending) (w' : World) : Prop where
  out : ∃ A n c, e = .returned (.tuple #[(.agg #[.int .u16 (D).src, .int .u16 (D).dst, .bool (D).bare, .slice A n c]), .int .i64 E]) ∧ Own w' w.heap.size 5 A n c D.dat ∧ Below w.heap.size w w'
theorem dgPost_no {w w' : World} {E : Int} (hB : Below w.heap.size w w') : DgPost w zD E (.returned (.tuple #[.agg #[.int .u16 0, .int .u16 0, .bool false, .slice none 0 0], .int .i64 E])) w' :=
  ⟨none, 0, 0, rfl, own_nil _ _ _, hB⟩
theorem udp_no (p : Pkt) (hp : p.Ok) (A1 : Option Addr) (n1 c1 : Nat) (A2 : Option Addr) (n2 c2 : Nat) (w : World) (k2 : Bs w A2 n2 c2 p.dat) (E q4 : Int) (b6 : Bool) (hq4 : get16 p.dat 4 = q4) (hb6 : (get16 p.dat 6 == 0) = b6)
    (h : (E = 12 ∧ (p.proto != 17) = true) ∨ (E = 3 ∧ (p.proto != 17) = false ∧ (n2 : Int) < 8) ∨ (E = 4 ∧ (p.proto != 17) = false ∧ 8 ≤ (n2 : Int) ∧ (q4 != (n2 : Int)) = true) ∨ (E = 5 ∧ (p.proto != 17) = false ∧ 8 ≤ (n2 : Int) ∧ (q4 != (n2 : Int)) = false ∧ b6 = false ∧ (psum p 17 p.dat == 0) = false)) :
    Calls Try.prog 27 #[(.agg #[.int .u8 (p).tos, .int .u16 (p).id, .bool (p).keep, .int .u8 (p).ttl, .int .u8 (p).proto, .int .u32 (p).src, .int .u32 (p).dst, .slice A1 n1 c1, .slice A2 n2 c2])] w (DgPost w zD E) := by
  have b2 := k2.max
  have q0 : 0 ≤ q4 := by rw [← hq4]; exact get16_lo _ _
  have q1 : q4 ≤ 65535 := by rw [← hq4]; exact get16_hi _ _
  have hw4 : IntKind.i64.wrap q4 = q4 := by rw [IntKind.wrap_i64]; omega
  have g4 : ∀ W, Bs W A2 n2 c2 p.dat → Calls Try.prog 38 #[.slice A2 n2 c2, .int .i64 4] W fun e w' => e = .returned (.int .u16 q4) ∧ Drawn W w' := fun W k => by have := get16_any A2 n2 c2 p.dat 4 W k; rw [hq4] at this; exact this
  obtain ⟨q6, hq6⟩ : ∃ q, get16 p.dat 6 = q := ⟨_, rfl⟩
  have g6 : ∀ W, Bs W A2 n2 c2 p.dat → Calls Try.prog 38 #[.slice A2 n2 c2, .int .i64 6] W fun e w' => e = .returned (.int .u16 q6) ∧ Drawn W w' := fun W k => by have := get16_any A2 n2 c2 p.dat 6 W k; rw [hq6] at this; exact this
  rw [hq6] at hb6
  clear hq4 hq6
  obtain ⟨k, hk⟩ : ∃ k : Nat, w.heap.size = k := ⟨_, rfl⟩
  obtain ⟨w1, hw1⟩ : ∃ W, ((w.alloc (.cells #[.int .u8 (p).tos, .int .u16 (p).id, .bool (p).keep, .int .u8 (p).ttl, .int .u8 (p).proto, .int .u32 (p).src, .int .u32 (p).dst, .slice A1 n1 c1, .slice A2 n2 c2] 26)).alloc (.cells #[.int .u16 0, .int .u16 0, .bool false, .slice none 0 0] 37)) = W := ⟨_, rfl⟩
  have P1 : Blk w1 k #[.int .u8 (p).tos, .int .u16 (p).id, .bool (p).keep, .int .u8 (p).ttl, .int .u8 (p).proto, .int .u32 (p).src, .int .u32 (p).dst, .slice A1 n1 c1, .slice A2 n2 c2] 26 := by rw [← hw1]; exact ((blk_new _ _ _ k (by simp [hk])).alloc _)
  have Z1 : Blk w1 (k + 1) #[.int .u16 0, .int .u16 0, .bool false, .slice none 0 0] 37 := by rw [← hw1]; exact (blk_new _ _ _ (k + 1) (by simp [hk]))
  have R1 : Below w.heap.size w w1 := by rw [← hw1]; (repeat (first | with_reducible exact Below.refl _ _ | with_reducible refine below_drew ?_ | with_reducible refine below_drewN ?_ _ | with_reducible refine below_alloc ?_ (Nat.le_refl _) _ | with_reducible refine Below.setCell ?_ (by first | exact Nat.le_refl _ | (simp only []; omega)) _ | with_reducible assumption))
  have Pc1 := P1.cell
  have Zc1 := Z1.cell
  have Pl1 := P1.lt
  have Zl1 := Z1.lt
  have x1 := (k2).below R1
  rcases h with ⟨rfl, h1⟩ | ⟨rfl, h1, h2⟩ | ⟨rfl, h1, h2, h3⟩ | ⟨rfl, h1, h2, h3, rfl, h5⟩
  · go_enter Try.func27, Try.ntmps27
    go_wp2_with (go_at_call 38; ((with_reducible refine (g6 w1 x1).mono ?_); rintro e w2 ⟨rfl, hD2⟩); have hB2 := hD2.bel; have P2 := P1.below hB2; have Pc2 := P2.cell; clear Pc1; have Z2 := Z1.below hB2; have Zc2 := Z2.cell; clear Zc1; have x2 := x1.below hB2; have R2 := below_then R1 hB2)
    obtain ⟨wf, hwf, Sf⟩ := store4 Z2 (.int .u16 0) (.int .u16 0) (.bool false) (.slice none 0 0)
    rw [hwf]
    have pf := Sf.blk.cell
    exact bodyPost_ret (by simp [results, Try.results27, go_sem, pf]) rfl (dgPost_no (Sf.bel R2 (by omega)))

  · go_enter Try.func27, Try.ntmps27
    go_wp2_with (go_at_call 38; ((with_reducible refine (g6 w1 x1).mono ?_); rintro e w2 ⟨rfl, hD2⟩); have hB2 := hD2.bel; have P2 := P1.below hB2; have Pc2 := P2.cell; clear Pc1; have Z2 := Z1.below hB2; have Zc2 := Z2.cell; clear Zc1; have x2 := x1.below hB2; have R2 := below_then R1 hB2)
    obtain ⟨wf, hwf, Sf⟩ := store4 Z2 (.int .u16 0) (.int .u16 0) (.bool false) (.slice none 0 0)
    rw [hwf]
    have pf := Sf.blk.cell
    exact bodyPost_ret (by simp [results, Try.results27, go_sem, pf]) rfl (dgPost_no (Sf.bel R2 (by omega)))

  · go_enter Try.func27, Try.ntmps27
    go_wp2_with (first
      | (go_at_call 38; ((with_reducible refine (g6 w1 x1).mono ?_); rintro e w2 ⟨rfl, hD2⟩); have hB2 := hD2.bel; have P2 := P1.below hB2; have Pc2 := P2.cell; clear Pc1; have Z2 := Z1.below hB2; have Zc2 := Z2.cell; clear Zc1; have x2 := x1.below hB2; have R2 := below_then R1 hB2)
      | (go_at_call 38; ((with_reducible refine (g4 w2 x2).mono ?_); rintro e w3 ⟨rfl, hD3⟩); have hB3 := hD3.bel; have P3 := P2.below hB3; have Pc3 := P3.cell; clear Pc2; have Z3 := Z2.below hB3; have Zc3 := Z3.cell; clear Zc2; have x3 := x2.below hB3; have R3 := below_then R2 hB3))
    obtain ⟨wf, hwf, Sf⟩ := store4 Z3 (.int .u16 0) (.int .u16 0) (.bool false) (.slice none 0 0)
    rw [hwf]
    have pf := Sf.blk.cell
    exact bodyPost_ret (by simp [results, Try.results27, go_sem, pf]) rfl (dgPost_no (Sf.bel R3 (by omega)))

  · have n2b : n2 ≤ 140737488400000 := by have : q4 = n2 := by simpa using h3
                                          omega
    go_enter Try.func27, Try.ntmps27
    go_wp2_with (first
      | (go_at_call 38; ((with_reducible refine (g6 w1 x1).mono ?_); rintro e w2 ⟨rfl, hD2⟩); have hB2 := hD2.bel; have P2 := P1.below hB2; have Pc2 := P2.cell; clear Pc1; have Z2 := Z1.below hB2; have Zc2 := Z2.cell; clear Zc1; have x2 := x1.below hB2; have R2 := below_then R1 hB2)
      | (go_at_call 38; ((with_reducible refine (g4 w2 x2).mono ?_); rintro e w3 ⟨rfl, hD3⟩); have hB3 := hD3.bel; have P3 := P2.below hB3; have Pc3 := P3.cell; clear Pc2; have Z3 := Z2.below hB3; have Zc3 := Z3.cell; clear Zc2; have x3 := x2.below hB3; have R3 := below_then R2 hB3)
      | (go_at_call 36; ((with_reducible refine (fits_any p hp A1 n1 c1 A2 n2 c2 17 (by omega) (by omega) w3 x3 n2b).mono ?_); rintro e w4 ⟨he4, hB4⟩); (try rw [h5] at he4); subst he4; have P4 := P3.below hB4; have Pc4 := P4.cell; clear Pc3; have Z4 := Z3.below hB4; have Zc4 := Z4.cell; clear Zc3; have x4 := x3.below hB4; have R4 := below_then R3 hB4))
    obtain ⟨wf, hwf, Sf⟩ := store4 Z4 (.int .u16 0) (.int .u16 0) (.bool false) (.slice none 0 0)
    rw [hwf]
    have pf := Sf.blk.cell
    exact bodyPost_ret (by simp [results, Try.results27, go_sem, pf]) rfl (dgPost_no (Sf.bel R4 (by omega)))
theorem udp_ok (p : Pkt) (hp : p.Ok) (A1 : Option Addr) (n1 c1 : Nat) (A2 : Option Addr) (n2 c2 : Nat) (w : World) (k2 : Bs w A2 n2 c2 p.dat) (q4 : Int) (b6 : Bool) (hq4 : get16 p.dat 4 = q4) (hb6 : (get16 p.dat 6 == 0) = b6)
    (h1 : (p.proto != 17) = false) (h2 : 8 ≤ (n2 : Int)) (h3 : (q4 != (n2 : Int)) = false) (h : b6 = true ∨ (b6 = false ∧ (psum p 17 p.dat == 0) = true)) :
    Calls Try.prog 27 #[(.agg #[.int .u8 (p).tos, .int .u16 (p).id, .bool (p).keep, .int .u8 (p).ttl, .int .u8 (p).proto, .int .u32 (p).src, .int .u32 (p).dst, .slice A1 n1 c1, .slice A2 n2 c2])] w (DgPost w (rdD p.dat) 0) := by
  have hlL : p.dat.take n2 = p.dat := List.take_of_length_le (by rw [k2.len]; exact Nat.le_refl _)
  obtain ⟨i8, hi8, -, hs8, -⟩ := info_parts info_u8
  have b2 := k2.max
  have hcap := k2.cap
  obtain ⟨b, off, rfl⟩ := k2.some_ (by omega)
  have hcut : ∀ W, (Instr.slice 24 (.slice (some ⟨b, off, none⟩) n2 c2) (some (.int .i64 8)) none none).run Try.prog W = _ := fun W => cut_l Try.underlying24 hi8 hs8 (some ⟨b, off, none⟩) n2 c2 .i64 8 (by omega) (by omega) W
  obtain ⟨A', n', c', eA, en, ec, hbD⟩ := k2.cutE (lo := 8) (hi := n2) (by omega) (Nat.le_refl _)
  simp only [show (8 : Int).toNat = 8 from rfl, eA, en, ec] at hcut
  rw [hlL] at hbD
  have hn' : n' ≤ n2 := by omega
  clear eA en ec hlL
  have q0 : 0 ≤ q4 := by rw [← hq4]; exact get16_lo _ _
  have q1 : q4 ≤ 65535 := by rw [← hq4]; exact get16_hi _ _
  have hw4 : IntKind.i64.wrap q4 = q4 := by rw [IntKind.wrap_i64]; omega
  have g4 : ∀ W, Bs W (some ⟨b, off, none⟩) n2 c2 p.dat → Calls Try.prog 38 #[.slice (some ⟨b, off, none⟩) n2 c2, .int .i64 4] W fun e w' => e = .returned (.int .u16 q4) ∧ Drawn W w' := fun W k => by have := get16_any (some ⟨b, off, none⟩) n2 c2 p.dat 4 W k; rw [hq4] at this; exact this
  obtain ⟨q6, hq6⟩ : ∃ q, get16 p.dat 6 = q := ⟨_, rfl⟩
  have g6 : ∀ W, Bs W (some ⟨b, off, none⟩) n2 c2 p.dat → Calls Try.prog 38 #[.slice (some ⟨b, off, none⟩) n2 c2, .int .i64 6] W fun e w' => e = .returned (.int .u16 q6) ∧ Drawn W w' := fun W k => by have := get16_any (some ⟨b, off, none⟩) n2 c2 p.dat 6 W k; rw [hq6] at this; exact this
  rw [hq6] at hb6
  have HQ6 := Lib.hid hq6
  clear hq4 hq6
  obtain ⟨v0, hv0⟩ : ∃ q, get16 p.dat 0 = q := ⟨_, rfl⟩
  obtain ⟨v2, hv2⟩ : ∃ q, get16 p.dat 2 = q := ⟨_, rfl⟩
  have g0 : ∀ W, Bs W (some ⟨b, off, none⟩) n2 c2 p.dat → Calls Try.prog 38 #[.slice (some ⟨b, off, none⟩) n2 c2, .int .i64 0] W fun e w' => e = .returned (.int .u16 v0) ∧ Drawn W w' := fun W k => by have := get16_any (some ⟨b, off, none⟩) n2 c2 p.dat 0 W k; rw [hv0] at this; exact this
  have g2 : ∀ W, Bs W (some ⟨b, off, none⟩) n2 c2 p.dat → Calls Try.prog 38 #[.slice (some ⟨b, off, none⟩) n2 c2, .int .i64 2] W fun e w' => e = .returned (.int .u16 v2) ∧ Drawn W w' := fun W k => by have := get16_any (some ⟨b, off, none⟩) n2 c2 p.dat 2 W k; rw [hv2] at this; exact this
  have HD : Hid (rdD p.dat = ⟨v0, v2, b6, p.dat.drop 8⟩) := by unfold Hid rdD; rw [hv0, hv2, HQ6.out, hb6]
  clear hv0 hv2
  have n2b : n2 ≤ 100000 := by have : q4 = n2 := by simpa using h3
                               omega
  obtain ⟨k, hk⟩ : ∃ k : Nat, w.heap.size = k := ⟨_, rfl⟩
  obtain ⟨w1, hw1⟩ : ∃ W, ((w.alloc (.cells #[.int .u8 (p).tos, .int .u16 (p).id, .bool (p).keep, .int .u8 (p).ttl, .int .u8 (p).proto, .int .u32 (p).src, .int .u32 (p).dst, .slice A1 n1 c1, .slice (some ⟨b, off, none⟩) n2 c2] 26)).alloc (.cells #[.int .u16 0, .int .u16 0, .bool false, .slice none 0 0] 37)) = W := ⟨_, rfl⟩
  have P1 : Blk w1 k #[.int .u8 (p).tos, .int .u16 (p).id, .bool (p).keep, .int .u8 (p).ttl, .int .u8 (p).proto, .int .u32 (p).src, .int .u32 (p).dst, .slice A1 n1 c1, .slice (some ⟨b, off, none⟩) n2 c2] 26 := by rw [← hw1]; exact ((blk_new _ _ _ k (by simp [hk])).alloc _)
  have Z1 : Blk w1 (k + 1) #[.int .u16 0, .int .u16 0, .bool false, .slice none 0 0] 37 := by rw [← hw1]; exact (blk_new _ _ _ (k + 1) (by simp [hk]))
  have R1 : Below w.heap.size w w1 := by rw [← hw1]; (repeat (first | with_reducible exact Below.refl _ _ | with_reducible refine below_drew ?_ | with_reducible refine below_drewN ?_ _ | with_reducible refine below_alloc ?_ (Nat.le_refl _) _ | with_reducible refine Below.setCell ?_ (by first | exact Nat.le_refl _ | (simp only []; omega)) _ | with_reducible assumption))
  have Pc1 := P1.cell
  have Zc1 := Z1.cell
  have Pl1 := P1.lt
  have Zl1 := Z1.lt
  have x1 := (k2).below R1
  rcases h with rfl | ⟨rfl, h5⟩
  · go_enter Try.func27, Try.ntmps27
    go_wp2_with (first
      | (go_at_call 38; ((with_reducible refine (g6 w1 x1).mono ?_); rintro e w2 ⟨rfl, hD2⟩); have hB2 := hD2.bel; have P2 := P1.below hB2; have Pc2 := P2.cell; clear Pc1; have Z2 := Z1.below hB2; have Zc2 := Z2.cell; clear Zc1; have x2 := x1.below hB2; have R2 := below_then R1 hB2)
      | (go_at_call 38; ((with_reducible refine (g4 w2 x2).mono ?_); rintro e w3 ⟨rfl, hD3⟩); have hB3 := hD3.bel; have P3 := P2.below hB3; have Pc3 := P3.cell; clear Pc2; have Z3 := Z2.below hB3; have Zc3 := Z3.cell; clear Zc2; have x3 := x2.below hB3; have R3 := below_then R2 hB3))
    have D3 := hbD.below R3
    have r3s := R3.size
    refine region_txt 8 (by kernel_rfl) (by kernel_rfl) ?_; (iterate 8 (first | (apply ObsK.skip (by rfl)) | (apply ObsK.v (by rfl); (intro wo hT; (repeat (first | (intro v hv; (skip)) | (intro _ _ k; try have hcv := cv k))); (have bo := x3.below hT; have hsz : w3.heap.size ≤ wo.heap.size := hT.size); refine Goes.mk ?_; go_simp; first | exact goes_v | exact goes_b (by assumption) | (refine goes_enter ?_; first | (go_at_call 38; ((with_reducible refine (g0 wo bo).mono ?_); rintro e w9 ⟨rfl, hD9⟩); exact ret_v hD9.bel) | (go_at_call 38; ((with_reducible refine (g2 wo bo).mono ?_); rintro e w9 ⟨rfl, hD9⟩); exact ret_v hD9.bel) | (go_at_call 40; ((with_reducible refine (clone_any A' n' c' _ wo (D3.below hT)).mono ?_); rintro e w9 ⟨A9, c9, rfl, ho9, hB9⟩); exact ret_p (own_isW ho9 hsz) hB9)))) | (apply ObsK.b (by rfl); (intro wo hT; (repeat (first | (intro v hv; (skip)) | (intro _ _ k; try have hcv := cv k))); (have bo := x3.below hT; have hsz : w3.heap.size ≤ wo.heap.size := hT.size); refine Goes.mk ?_; go_simp; first | exact goes_v | exact goes_b (by assumption) | (refine goes_enter ?_; first | (go_at_call 38; ((with_reducible refine (g0 wo bo).mono ?_); rintro e w9 ⟨rfl, hD9⟩); exact ret_v hD9.bel) | (go_at_call 38; ((with_reducible refine (g2 wo bo).mono ?_); rintro e w9 ⟨rfl, hD9⟩); exact ret_v hD9.bel) | (go_at_call 40; ((with_reducible refine (clone_any A' n' c' _ wo (D3.below hT)).mono ?_); rintro e w9 ⟨A9, c9, rfl, ho9, hB9⟩); exact ret_p (own_isW ho9 hsz) hB9)))) | (apply ObsK.p (q := isW w3.heap.size _) (by rfl) st_isW; (intro wo hT; (repeat (first | (intro v hv; (skip)) | (intro _ _ k; try have hcv := cv k))); (have bo := x3.below hT; have hsz : w3.heap.size ≤ wo.heap.size := hT.size); refine Goes.mk ?_; go_simp; first | exact goes_v | exact goes_b (by assumption) | (refine goes_enter ?_; first | (go_at_call 38; ((with_reducible refine (g0 wo bo).mono ?_); rintro e w9 ⟨rfl, hD9⟩); exact ret_v hD9.bel) | (go_at_call 38; ((with_reducible refine (g2 wo bo).mono ?_); rintro e w9 ⟨rfl, hD9⟩); exact ret_v hD9.bel) | (go_at_call 40; ((with_reducible refine (clone_any A' n' c' _ wo (D3.below hT)).mono ?_); rintro e w9 ⟨A9, c9, rfl, ho9, hB9⟩); exact ret_p (own_isW ho9 hsz) hB9)))))); refine ObsK.nil ?_; intro wz hBz; simp only [finOn, List.drop_succ_cons, List.drop_zero, List.drop_nil]
    rintro v9 ⟨A9, n9, c9, rfl, O9⟩
    go_simp
    have Zz := Z3.below hBz
    have zcz := Zz.cell
    have zl := Z3.lt
    obtain ⟨wf, hwf, Sf⟩ := store4 Zz (.int .u16 v0) (.int .u16 v2) (.bool true) (.slice A9 n9 c9)
    have pf := Sf.blk.cell
    have Tf := Sf.bel (below_then R3 hBz) (by omega)
    have Of := Sf.own O9 (fun a e => by have := O9.ge a e; omega)
    go_wp2_with fail
    refine bodyPost_ret (v := .tuple #[.agg #[.int .u16 v0, .int .u16 v2, .bool true, .slice A9 n9 c9], .int .i64 0]) (by simp [results, Try.results27, go_sem, pf]) rfl (by rw [HD.out]; exact ⟨A9, n9, c9, rfl, Of.mono r3s, Tf⟩)

  · go_enter Try.func27, Try.ntmps27
    go_wp2_with (first
      | (go_at_call 38; ((with_reducible refine (g6 w1 x1).mono ?_); rintro e w2 ⟨rfl, hD2⟩); have hB2 := hD2.bel; have P2 := P1.below hB2; have Pc2 := P2.cell; clear Pc1; have Z2 := Z1.below hB2; have Zc2 := Z2.cell; clear Zc1; have x2 := x1.below hB2; have R2 := below_then R1 hB2)
      | (go_at_call 38; ((with_reducible refine (g4 w2 x2).mono ?_); rintro e w3 ⟨rfl, hD3⟩); have hB3 := hD3.bel; have P3 := P2.below hB3; have Pc3 := P3.cell; clear Pc2; have Z3 := Z2.below hB3; have Zc3 := Z3.cell; clear Zc2; have x3 := x2.below hB3; have R3 := below_then R2 hB3)
      | (go_at_call 36; ((with_reducible refine (fits_any p hp A1 n1 c1 (some ⟨b, off, none⟩) n2 c2 17 (by omega) (by omega) w3 x3 (by omega)).mono ?_); rintro e w4 ⟨he4, hB4⟩); (try rw [h5] at he4); subst he4; have P4 := P3.below hB4; have Pc4 := P4.cell; clear Pc3; have Z4 := Z3.below hB4; have Zc4 := Z4.cell; clear Zc3; have x4 := x3.below hB4; have R4 := below_then R3 hB4))
    have D4 := hbD.below R4
    have r4s := R4.size
    refine region_txt 8 (by kernel_rfl) (by kernel_rfl) ?_; (iterate 8 (first | (apply ObsK.skip (by rfl)) | (apply ObsK.v (by rfl); (intro wo hT; (repeat (first | (intro v hv; (skip)) | (intro _ _ k; try have hcv := cv k))); (have bo := x4.below hT; have hsz : w4.heap.size ≤ wo.heap.size := hT.size); refine Goes.mk ?_; go_simp; first | exact goes_v | exact goes_b (by assumption) | (refine goes_enter ?_; first | (go_at_call 38; ((with_reducible refine (g0 wo bo).mono ?_); rintro e w9 ⟨rfl, hD9⟩); exact ret_v hD9.bel) | (go_at_call 38; ((with_reducible refine (g2 wo bo).mono ?_); rintro e w9 ⟨rfl, hD9⟩); exact ret_v hD9.bel) | (go_at_call 40; ((with_reducible refine (clone_any A' n' c' _ wo (D4.below hT)).mono ?_); rintro e w9 ⟨A9, c9, rfl, ho9, hB9⟩); exact ret_p (own_isW ho9 hsz) hB9)))) | (apply ObsK.b (by rfl); (intro wo hT; (repeat (first | (intro v hv; (skip)) | (intro _ _ k; try have hcv := cv k))); (have bo := x4.below hT; have hsz : w4.heap.size ≤ wo.heap.size := hT.size); refine Goes.mk ?_; go_simp; first | exact goes_v | exact goes_b (by assumption) | (refine goes_enter ?_; first | (go_at_call 38; ((with_reducible refine (g0 wo bo).mono ?_); rintro e w9 ⟨rfl, hD9⟩); exact ret_v hD9.bel) | (go_at_call 38; ((with_reducible refine (g2 wo bo).mono ?_); rintro e w9 ⟨rfl, hD9⟩); exact ret_v hD9.bel) | (go_at_call 40; ((with_reducible refine (clone_any A' n' c' _ wo (D4.below hT)).mono ?_); rintro e w9 ⟨A9, c9, rfl, ho9, hB9⟩); exact ret_p (own_isW ho9 hsz) hB9)))) | (apply ObsK.p (q := isW w4.heap.size _) (by rfl) st_isW; (intro wo hT; (repeat (first | (intro v hv; (skip)) | (intro _ _ k; try have hcv := cv k))); (have bo := x4.below hT; have hsz : w4.heap.size ≤ wo.heap.size := hT.size); refine Goes.mk ?_; go_simp; first | exact goes_v | exact goes_b (by assumption) | (refine goes_enter ?_; first | (go_at_call 38; ((with_reducible refine (g0 wo bo).mono ?_); rintro e w9 ⟨rfl, hD9⟩); exact ret_v hD9.bel) | (go_at_call 38; ((with_reducible refine (g2 wo bo).mono ?_); rintro e w9 ⟨rfl, hD9⟩); exact ret_v hD9.bel) | (go_at_call 40; ((with_reducible refine (clone_any A' n' c' _ wo (D4.below hT)).mono ?_); rintro e w9 ⟨A9, c9, rfl, ho9, hB9⟩); exact ret_p (own_isW ho9 hsz) hB9)))))); refine ObsK.nil ?_; intro wz hBz; simp only [finOn, List.drop_succ_cons, List.drop_zero, List.drop_nil]
    rintro v9 ⟨A9, n9, c9, rfl, O9⟩
    go_simp
    have Zz := Z4.below hBz
    have zcz := Zz.cell
    have zl := Z4.lt
    obtain ⟨wf, hwf, Sf⟩ := store4 Zz (.int .u16 v0) (.int .u16 v2) (.bool false) (.slice A9 n9 c9)
    have pf := Sf.blk.cell
    have Tf := Sf.bel (below_then R4 hBz) (by omega)
    have Of := Sf.own O9 (fun a e => by have := O9.ge a e; omega)
    go_wp2_with fail
    refine bodyPost_ret (v := .tuple #[.agg #[.int .u16 v0, .int .u16 v2, .bool false, .slice A9 n9 c9], .int .i64 0]) (by simp [results, Try.results27, go_sem, pf]) rfl (by rw [HD.out]; exact ⟨A9, n9, c9, rfl, Of.mono r4s, Tf⟩)
theorem ud_ways (p : Pkt) (n2 : Nat) (l2 : p.dat.length = n2) :
    (udE p ≠ 0 ∧ ((udE p = 12 ∧ (p.proto != 17) = true) ∨ (udE p = 3 ∧ (p.proto != 17) = false ∧ (n2 : Int) < 8) ∨ (udE p = 4 ∧ (p.proto != 17) = false ∧ 8 ≤ (n2 : Int) ∧ (get16 p.dat 4 != (n2 : Int)) = true) ∨ (udE p = 5 ∧ (p.proto != 17) = false ∧ 8 ≤ (n2 : Int) ∧ (get16 p.dat 4 != (n2 : Int)) = false ∧ (get16 p.dat 6 == 0) = false ∧ (psum p 17 p.dat == 0) = false))) ∨
    (udE p = 0 ∧ (p.proto != 17) = false ∧ 8 ≤ (n2 : Int) ∧ (get16 p.dat 4 != (n2 : Int)) = false ∧ ((get16 p.dat 6 == 0) = true ∨ ((get16 p.dat 6 == 0) = false ∧ (psum p 17 p.dat == 0) = true))) := by
  unfold udE
  rw [l2]
  by_cases h1 : p.proto = 17
  · by_cases h2 : n2 < 8
    · have h2' : (n2 : Int) < 8 := by omega
      simp [h1, h2, h2']
    · have h2' : 8 ≤ (n2 : Int) := by omega
      by_cases h3 : get16 p.dat 4 = n2
      · by_cases h6 : get16 p.dat 6 = 0
        · simp [h1, h2, h2', h3, h6]
        · by_cases h5 : psum p 17 p.dat = 0
          · simp [h1, h2, h2', h3, h6, h5]
          · simp [h1, h2, h2', h3, h6, h5]
      · simp [h1, h2, h2', h3]
  · simp [h1]
theorem udp_any (p : Pkt) (hp : p.Ok) (A1 : Option Addr) (n1 c1 : Nat) (A2 : Option Addr) (n2 c2 : Nat) (w : World) (k2 : Bs w A2 n2 c2 p.dat) :
    Calls Try.prog 27 #[(.agg #[.int .u8 (p).tos, .int .u16 (p).id, .bool (p).keep, .int .u8 (p).ttl, .int .u8 (p).proto, .int .u32 (p).src, .int .u32 (p).dst, .slice A1 n1 c1, .slice A2 n2 c2])] w (DgPost w (udD p) (udE p)) := by
  unfold udD
  rcases ud_ways p n2 k2.len with ⟨h0, h⟩ | ⟨h0, h1, h2, h3, h⟩
  · rw [if_neg h0]
    exact udp_no p hp A1 n1 c1 A2 n2 c2 w k2 _ _ _ rfl rfl h
  · rw [if_pos h0, h0]
    exact udp_ok p hp A1 n1 c1 A2 n2 c2 w k2 _ _ rfl rfl h1 h2 h3 h
theorem rudp_no (p : Pkt) (hp : p.Ok) (A1 : Option Addr) (n1 c1 : Nat) (A2 : Option Addr) (n2 c2 : Nat) (w : World) (k2 : Bs w A2 n2 c2 p.dat) (E q4 : Int) (b6 : Bool) (hq4 : get16 p.dat 4 = q4) (hb6 : (get16 p.dat 6 == 0) = b6)
    (h : (E = 12 ∧ (p.proto != 17) = true) ∨ (E = 3 ∧ (p.proto != 17) = false ∧ (n2 : Int) < 8) ∨ (E = 4 ∧ (p.proto != 17) = false ∧ 8 ≤ (n2 : Int) ∧ (q4 != (n2 : Int)) = true) ∨ (E = 5 ∧ (p.proto != 17) = false ∧ 8 ≤ (n2 : Int) ∧ (q4 != (n2 : Int)) = false ∧ b6 = false ∧ (psum p 17 p.dat == 0) = false)) :
    Calls Try.prog 28 #[(.agg #[.int .u8 (p).tos, .int .u16 (p).id, .bool (p).keep, .int .u8 (p).ttl, .int .u8 (p).proto, .int .u32 (p).src, .int .u32 (p).dst, .slice A1 n1 c1, .slice A2 n2 c2])] w (DgPost w zD E) := by
  have b2 := k2.max
  have q0 : 0 ≤ q4 := by rw [← hq4]; exact get16_lo _ _
  have q1 : q4 ≤ 65535 := by rw [← hq4]; exact get16_hi _ _
  have hw4 : IntKind.i64.wrap q4 = q4 := by rw [IntKind.wrap_i64]; omega
  have g4 : ∀ W, Bs W A2 n2 c2 p.dat → Calls Try.prog 43 #[.slice A2 n2 c2, .int .i64 4] W fun e w' => e = .returned (.int .u16 q4) ∧ Drawn W w' := fun W k => by have := rget16_any A2 n2 c2 p.dat 4 W k; rw [hq4] at this; exact this
  obtain ⟨q6, hq6⟩ : ∃ q, get16 p.dat 6 = q := ⟨_, rfl⟩
  have g6 : ∀ W, Bs W A2 n2 c2 p.dat → Calls Try.prog 43 #[.slice A2 n2 c2, .int .i64 6] W fun e w' => e = .returned (.int .u16 q6) ∧ Drawn W w' := fun W k => by have := rget16_any A2 n2 c2 p.dat 6 W k; rw [hq6] at this; exact this
  rw [hq6] at hb6
  clear hq4 hq6
  obtain ⟨k, hk⟩ : ∃ k : Nat, w.heap.size = k := ⟨_, rfl⟩
  obtain ⟨w1, hw1⟩ : ∃ W, ((w.alloc (.cells #[.int .u8 (p).tos, .int .u16 (p).id, .bool (p).keep, .int .u8 (p).ttl, .int .u8 (p).proto, .int .u32 (p).src, .int .u32 (p).dst, .slice A1 n1 c1, .slice A2 n2 c2] 26)).alloc (.cells #[.int .u16 0, .int .u16 0, .bool false, .slice none 0 0] 37)) = W := ⟨_, rfl⟩
  have P1 : Blk w1 k #[.int .u8 (p).tos, .int .u16 (p).id, .bool (p).keep, .int .u8 (p).ttl, .int .u8 (p).proto, .int .u32 (p).src, .int .u32 (p).dst, .slice A1 n1 c1, .slice A2 n2 c2] 26 := by rw [← hw1]; exact ((blk_new _ _ _ k (by simp [hk])).alloc _)
  have Z1 : Blk w1 (k + 1) #[.int .u16 0, .int .u16 0, .bool false, .slice none 0 0] 37 := by rw [← hw1]; exact (blk_new _ _ _ (k + 1) (by simp [hk]))
  have R1 : Below w.heap.size w w1 := by rw [← hw1]; (repeat (first | with_reducible exact Below.refl _ _ | with_reducible refine below_drew ?_ | with_reducible refine below_drewN ?_ _ | with_reducible refine below_alloc ?_ (Nat.le_refl _) _ | with_reducible refine Below.setCell ?_ (by first | exact Nat.le_refl _ | (simp only []; omega)) _ | with_reducible assumption))
  have Pc1 := P1.cell
  have Zc1 := Z1.cell
  have Pl1 := P1.lt
  have Zl1 := Z1.lt
  have x1 := (k2).below R1
  rcases h with ⟨rfl, h1⟩ | ⟨rfl, h1, h2⟩ | ⟨rfl, h1, h2, h3⟩ | ⟨rfl, h1, h2, h3, rfl, h5⟩
  · go_enter Try.func28, Try.ntmps28
    go_wp2_with fail
    obtain ⟨wf, hwf, Sf⟩ := store4 Z1 (.int .u16 0) (.int .u16 0) (.bool false) (.slice none 0 0)
    rw [hwf]
    have pf := Sf.blk.cell
    exact bodyPost_ret (by simp [results, Try.results28, go_sem, pf]) rfl (dgPost_no (Sf.bel R1 (by omega)))
  · go_enter Try.func28, Try.ntmps28
    go_wp2_with fail
    obtain ⟨wf, hwf, Sf⟩ := store4 Z1 (.int .u16 0) (.int .u16 0) (.bool false) (.slice none 0 0)
    rw [hwf]
    have pf := Sf.blk.cell
    exact bodyPost_ret (by simp [results, Try.results28, go_sem, pf]) rfl (dgPost_no (Sf.bel R1 (by omega)))
  · go_enter Try.func28, Try.ntmps28
    go_wp2_with (go_at_call 43; ((with_reducible refine (g4 w1 x1).mono ?_); rintro e w2 ⟨rfl, hD2⟩); have hB2 := hD2.bel; have P2 := P1.below hB2; have Pc2 := P2.cell; clear Pc1; have Z2 := Z1.below hB2; have Zc2 := Z2.cell; clear Zc1; have x2 := x1.below hB2; have R2 := below_then R1 hB2)
    obtain ⟨wf, hwf, Sf⟩ := store4 Z2 (.int .u16 0) (.int .u16 0) (.bool false) (.slice none 0 0)
    rw [hwf]
    have pf := Sf.blk.cell
    exact bodyPost_ret (by simp [results, Try.results28, go_sem, pf]) rfl (dgPost_no (Sf.bel R2 (by omega)))

  · have n2b : n2 ≤ 17592186044400 := by have : q4 = n2 := by simpa using h3
                                         omega
    have h6 : ∀ z : Int, (z == 0) = false → (z != 0) = true := fun z h => by simpa using h
    have h5' := h6 _ h5
    go_enter Try.func28, Try.ntmps28
    go_wp2_with (first
      | (go_at_call 43; ((with_reducible refine (g4 w1 x1).mono ?_); rintro e w2 ⟨rfl, hD2⟩); have hB2 := hD2.bel; have P2 := P1.below hB2; have Pc2 := P2.cell; clear Pc1; have Z2 := Z1.below hB2; have Zc2 := Z2.cell; clear Zc1; have x2 := x1.below hB2; have R2 := below_then R1 hB2)
      | (go_at_call 43; ((with_reducible refine (g6 w2 x2).mono ?_); rintro e w3 ⟨rfl, hD3⟩); have hB3 := hD3.bel; have P3 := P2.below hB3; have Pc3 := P3.cell; clear Pc2; have Z3 := Z2.below hB3; have Zc3 := Z3.cell; clear Zc2; have x3 := x2.below hB3; have R3 := below_then R2 hB3)
      | (go_at_call 41; ((with_reducible refine (rssum_any p hp A1 n1 c1 A2 n2 c2 17 (by omega) (by omega) A2 n2 c2 p.dat w3 x3 n2b).mono ?_); rintro e w4 ⟨rfl, hB4⟩); have P4 := P3.below hB4; have Pc4 := P4.cell; clear Pc3; have Z4 := Z3.below hB4; have Zc4 := Z4.cell; clear Zc3; have x4 := x3.below hB4; have R4 := below_then R3 hB4))
    obtain ⟨wf, hwf, Sf⟩ := store4 Z4 (.int .u16 0) (.int .u16 0) (.bool false) (.slice none 0 0)
    rw [hwf]
    have pf := Sf.blk.cell
    exact bodyPost_ret (by simp [results, Try.results28, go_sem, pf]) rfl (dgPost_no (Sf.bel R4 (by omega)))
theorem rudp_ok (p : Pkt) (hp : p.Ok) (A1 : Option Addr) (n1 c1 : Nat) (A2 : Option Addr) (n2 c2 : Nat) (w : World) (k2 : Bs w A2 n2 c2 p.dat) (q4 : Int) (b6 : Bool) (hq4 : get16 p.dat 4 = q4) (hb6 : (get16 p.dat 6 == 0) = b6)
    (h1 : (p.proto != 17) = false) (h2 : 8 ≤ (n2 : Int)) (h3 : (q4 != (n2 : Int)) = false) (h : b6 = true ∨ (b6 = false ∧ (psum p 17 p.dat == 0) = true)) :
    Calls Try.prog 28 #[(.agg #[.int .u8 (p).tos, .int .u16 (p).id, .bool (p).keep, .int .u8 (p).ttl, .int .u8 (p).proto, .int .u32 (p).src, .int .u32 (p).dst, .slice A1 n1 c1, .slice A2 n2 c2])] w (DgPost w (rdD p.dat) 0) := by
  have hlL : p.dat.take n2 = p.dat := List.take_of_length_le (by rw [k2.len]; exact Nat.le_refl _)
  obtain ⟨i8, hi8, -, hs8, -⟩ := info_parts info_u8
  have b2 := k2.max
  have hcap := k2.cap
  obtain ⟨b, off, rfl⟩ := k2.some_ (by omega)
  have hcut : ∀ W, (Instr.slice 24 (.slice (some ⟨b, off, none⟩) n2 c2) (some (.int .i64 8)) none none).run Try.prog W = _ := fun W => cut_l Try.underlying24 hi8 hs8 (some ⟨b, off, none⟩) n2 c2 .i64 8 (by omega) (by omega) W
  obtain ⟨A', n', c', eA, en, ec, hbD⟩ := k2.cutE (lo := 8) (hi := n2) (by omega) (Nat.le_refl _)
  simp only [show (8 : Int).toNat = 8 from rfl, eA, en, ec] at hcut
  rw [hlL] at hbD
  have hn' : n' ≤ n2 := by omega
  clear eA en ec hlL
  have q0 : 0 ≤ q4 := by rw [← hq4]; exact get16_lo _ _
  have q1 : q4 ≤ 65535 := by rw [← hq4]; exact get16_hi _ _
  have hw4 : IntKind.i64.wrap q4 = q4 := by rw [IntKind.wrap_i64]; omega
  have g4 : ∀ W, Bs W (some ⟨b, off, none⟩) n2 c2 p.dat → Calls Try.prog 43 #[.slice (some ⟨b, off, none⟩) n2 c2, .int .i64 4] W fun e w' => e = .returned (.int .u16 q4) ∧ Drawn W w' := fun W k => by have := rget16_any (some ⟨b, off, none⟩) n2 c2 p.dat 4 W k; rw [hq4] at this; exact this
  obtain ⟨q6, hq6⟩ : ∃ q, get16 p.dat 6 = q := ⟨_, rfl⟩
  have g6 : ∀ W, Bs W (some ⟨b, off, none⟩) n2 c2 p.dat → Calls Try.prog 43 #[.slice (some ⟨b, off, none⟩) n2 c2, .int .i64 6] W fun e w' => e = .returned (.int .u16 q6) ∧ Drawn W w' := fun W k => by have := rget16_any (some ⟨b, off, none⟩) n2 c2 p.dat 6 W k; rw [hq6] at this; exact this
  rw [hq6] at hb6
  have HQ6 := Lib.hid hq6
  clear hq4 hq6
  obtain ⟨v0, hv0⟩ : ∃ q, get16 p.dat 0 = q := ⟨_, rfl⟩
  obtain ⟨v2, hv2⟩ : ∃ q, get16 p.dat 2 = q := ⟨_, rfl⟩
  have g0 : ∀ W, Bs W (some ⟨b, off, none⟩) n2 c2 p.dat → Calls Try.prog 43 #[.slice (some ⟨b, off, none⟩) n2 c2, .int .i64 0] W fun e w' => e = .returned (.int .u16 v0) ∧ Drawn W w' := fun W k => by have := rget16_any (some ⟨b, off, none⟩) n2 c2 p.dat 0 W k; rw [hv0] at this; exact this
  have g2 : ∀ W, Bs W (some ⟨b, off, none⟩) n2 c2 p.dat → Calls Try.prog 43 #[.slice (some ⟨b, off, none⟩) n2 c2, .int .i64 2] W fun e w' => e = .returned (.int .u16 v2) ∧ Drawn W w' := fun W k => by have := rget16_any (some ⟨b, off, none⟩) n2 c2 p.dat 2 W k; rw [hv2] at this; exact this
  have HD : Hid (rdD p.dat = ⟨v0, v2, b6, p.dat.drop 8⟩) := by unfold Hid rdD; rw [hv0, hv2, HQ6.out, hb6]
  clear hv0 hv2
  have n2b : n2 ≤ 100000 := by have : q4 = n2 := by simpa using h3
                               omega
  obtain ⟨k, hk⟩ : ∃ k : Nat, w.heap.size = k := ⟨_, rfl⟩
  obtain ⟨w1, hw1⟩ : ∃ W, ((w.alloc (.cells #[.int .u8 (p).tos, .int .u16 (p).id, .bool (p).keep, .int .u8 (p).ttl, .int .u8 (p).proto, .int .u32 (p).src, .int .u32 (p).dst, .slice A1 n1 c1, .slice (some ⟨b, off, none⟩) n2 c2] 26)).alloc (.cells #[.int .u16 0, .int .u16 0, .bool false, .slice none 0 0] 37)) = W := ⟨_, rfl⟩
  have P1 : Blk w1 k #[.int .u8 (p).tos, .int .u16 (p).id, .bool (p).keep, .int .u8 (p).ttl, .int .u8 (p).proto, .int .u32 (p).src, .int .u32 (p).dst, .slice A1 n1 c1, .slice (some ⟨b, off, none⟩) n2 c2] 26 := by rw [← hw1]; exact ((blk_new _ _ _ k (by simp [hk])).alloc _)
  have Z1 : Blk w1 (k + 1) #[.int .u16 0, .int .u16 0, .bool false, .slice none 0 0] 37 := by rw [← hw1]; exact (blk_new _ _ _ (k + 1) (by simp [hk]))
  have R1 : Below w.heap.size w w1 := by rw [← hw1]; (repeat (first | with_reducible exact Below.refl _ _ | with_reducible refine below_drew ?_ | with_reducible refine below_drewN ?_ _ | with_reducible refine below_alloc ?_ (Nat.le_refl _) _ | with_reducible refine Below.setCell ?_ (by first | exact Nat.le_refl _ | (simp only []; omega)) _ | with_reducible assumption))
  have Pc1 := P1.cell
  have Zc1 := Z1.cell
  have Pl1 := P1.lt
  have Zl1 := Z1.lt
  have x1 := (k2).below R1
  rcases h with rfl | ⟨rfl, h5⟩
  · go_enter Try.func28, Try.ntmps28
    go_wp2_with (first
      | (go_at_call 43; ((with_reducible refine (g4 w1 x1).mono ?_); rintro e w2 ⟨rfl, hD2⟩); have hB2 := hD2.bel; have P2 := P1.below hB2; have Pc2 := P2.cell; clear Pc1; have Z2 := Z1.below hB2; have Zc2 := Z2.cell; clear Zc1; have x2 := x1.below hB2; have R2 := below_then R1 hB2)
      | (go_at_call 43; ((with_reducible refine (g6 w2 x2).mono ?_); rintro e w3 ⟨rfl, hD3⟩); have hB3 := hD3.bel; have P3 := P2.below hB3; have Pc3 := P3.cell; clear Pc2; have Z3 := Z2.below hB3; have Zc3 := Z3.cell; clear Zc2; have x3 := x2.below hB3; have R3 := below_then R2 hB3)
      | (go_at_call 43; ((with_reducible refine (g0 w3 x3).mono ?_); rintro e w4 ⟨rfl, hD4⟩); have hB4 := hD4.bel; have P4 := P3.below hB4; have Pc4 := P4.cell; clear Pc3; have Z4 := Z3.below hB4; have Zc4 := Z4.cell; clear Zc3; have x4 := x3.below hB4; have R4 := below_then R3 hB4)
      | (go_at_call 43; ((with_reducible refine (g2 w4 x4).mono ?_); rintro e w5 ⟨rfl, hD5⟩); have hB5 := hD5.bel; have P5 := P4.below hB5; have Pc5 := P5.cell; clear Pc4; have Z5 := Z4.below hB5; have Zc5 := Z5.cell; clear Zc4; have x5 := x4.below hB5; have R5 := below_then R4 hB5))
    obtain ⟨wq, hwq⟩ : ∃ W, w5.alloc (.cells #[.int .u16 v0, .int .u16 v2, .bool true, .slice none 0 0] 37) = W := ⟨_, rfl⟩
    have G := blk_new w5 #[.int .u16 v0, .int .u16 v2, .bool true, .slice none 0 0] 37 _ rfl
    have Vq : Below w5.heap.size w5 wq := by rw [← hwq]; (repeat (first | with_reducible exact Below.refl _ _ | with_reducible refine below_drew ?_ | with_reducible refine below_drewN ?_ _ | with_reducible refine below_alloc ?_ (Nat.le_refl _) _ | with_reducible refine Below.setCell ?_ (by first | exact Nat.le_refl _ | (simp only []; omega)) _ | with_reducible assumption))
    rw [hwq] at G ⊢
    have Zq := Z5.below Vq
    have Tq := below_then R5 Vq
    have Dq := hbD.below Tq
    have zl := Z5.lt
    have rs := R5.size
    have hg : w.heap.size ≤ w5.heap.size := rs
    clear hwq
    refine region_txt 4 (by kernel_rfl) (by kernel_rfl) ?_; (iterate 4 (first | (apply ObsK.skip (by rfl)) | (apply ObsK.v (by rfl); (intro wo hT; (repeat (first | (intro _ _ k; try have hcv := cv k))); (have gc := (G.below hT).cell); refine Goes.mk ?_; go_simp; first | exact goes_v | exact goes_b (by assumption) | (refine goes_enter ?_; first | fail))) | (apply ObsK.b (by rfl); (intro wo hT; (repeat (first | (intro _ _ k; try have hcv := cv k))); (have gc := (G.below hT).cell); refine Goes.mk ?_; go_simp; first | exact goes_v | exact goes_b (by assumption) | (refine goes_enter ?_; first | fail))))); refine ObsK.nil ?_; intro wz hBz; simp only [finOn, List.drop_succ_cons, List.drop_zero, List.drop_nil]
    go_simp
    have G5 := G.below hBz
    have Z5 := Zq.below hBz
    have T5 := below_then Tq hBz
    have D5 := Dq.below hBz
    have gs := hBz.size
    have gl := G.lt
    go_wp2_with (first
      | (at_builtin; refine wpList_append_bs (w0 := wz) _ rfl _ _ _ rfl wz.heap.size 5 Try.underlying24 info_u8 none 0 0 [] rfl (own_nil _ _ _) A' n' c' _ rfl D5 (Below.refl _ _) (by omega) (by first | exact Nat.le_refl _ | exact Below.size (Below.refl _ _) | omega | (simp <;> omega)) ?_; intro A7 n7 c7 w7 ho7 hB7 _ hz7; have u7 : n7 = n' := (by have := ho7.len; have := D5.len; simp at *; omega); subst u7; replace ho7 : Own w7 wz.heap.size 5 A7 n7 c7 (p.dat.drop 8) := ho7; have G7 := G5.below hB7; have gc7 := G7.cell; (obtain ⟨w8, hw8, S8⟩ := store1 G7 3 (.slice A7 n7 c7)); simp only [List.setIfInBounds_toArray, List.set_cons_zero, List.set_cons_succ] at S8; have gc8 := S8.blk.cell; have Z8 := S8.other (by omega) (Z5.below hB7); have zc8 := Z8.cell; have T8 := S8.bel (below_then T5 hB7) (by omega); have O8 := S8.own ho7 (fun a e => by have := ho7.ge a e; omega)))
    obtain ⟨wf, hwf, Sf⟩ := store4 Z8 (.int .u16 v0) (.int .u16 v2) (.bool true) (.slice A7 n7 c7)
    rw [hwf]
    have pf := Sf.blk.cell
    have Of := Sf.own O8 (fun a e => by have := ho7.ge a e; omega)
    have s5 := T5.size
    refine bodyPost_ret (v := .tuple #[.agg #[.int .u16 v0, .int .u16 v2, .bool true, .slice A7 n7 c7], .int .i64 0]) (by simp [results, Try.results28, go_sem, pf]) rfl (by rw [HD.out]; exact ⟨A7, n7, c7, rfl, Of.mono s5, Sf.bel T8 (by omega)⟩)

  · have h6 : ∀ z : Int, (z == 0) = true → (z != 0) = false := fun z h => by simpa using h
    have h5' := h6 _ h5
    go_enter Try.func28, Try.ntmps28
    go_wp2_with (first
      | (go_at_call 43; ((with_reducible refine (g4 w1 x1).mono ?_); rintro e w2 ⟨rfl, hD2⟩); have hB2 := hD2.bel; have P2 := P1.below hB2; have Pc2 := P2.cell; clear Pc1; have Z2 := Z1.below hB2; have Zc2 := Z2.cell; clear Zc1; have x2 := x1.below hB2; have R2 := below_then R1 hB2)
      | (go_at_call 43; ((with_reducible refine (g6 w2 x2).mono ?_); rintro e w3 ⟨rfl, hD3⟩); have hB3 := hD3.bel; have P3 := P2.below hB3; have Pc3 := P3.cell; clear Pc2; have Z3 := Z2.below hB3; have Zc3 := Z3.cell; clear Zc2; have x3 := x2.below hB3; have R3 := below_then R2 hB3)
      | (go_at_call 41; ((with_reducible refine (rssum_any p hp A1 n1 c1 (some ⟨b, off, none⟩) n2 c2 17 (by omega) (by omega) (some ⟨b, off, none⟩) n2 c2 p.dat w3 x3 (by omega)).mono ?_); rintro e w4 ⟨rfl, hB4⟩); have P4 := P3.below hB4; have Pc4 := P4.cell; clear Pc3; have Z4 := Z3.below hB4; have Zc4 := Z4.cell; clear Zc3; have x4 := x3.below hB4; have R4 := below_then R3 hB4)
      | (go_at_call 43; ((with_reducible refine (g0 w4 x4).mono ?_); rintro e w5 ⟨rfl, hD5⟩); have hB5 := hD5.bel; have P5 := P4.below hB5; have Pc5 := P5.cell; clear Pc4; have Z5 := Z4.below hB5; have Zc5 := Z5.cell; clear Zc4; have x5 := x4.below hB5; have R5 := below_then R4 hB5)
      | (go_at_call 43; ((with_reducible refine (g2 w5 x5).mono ?_); rintro e w6 ⟨rfl, hD6⟩); have hB6 := hD6.bel; have P6 := P5.below hB6; have Pc6 := P6.cell; clear Pc5; have Z6 := Z5.below hB6; have Zc6 := Z6.cell; clear Zc5; have x6 := x5.below hB6; have R6 := below_then R5 hB6))
    obtain ⟨wq, hwq⟩ : ∃ W, w6.alloc (.cells #[.int .u16 v0, .int .u16 v2, .bool false, .slice none 0 0] 37) = W := ⟨_, rfl⟩
    have G := blk_new w6 #[.int .u16 v0, .int .u16 v2, .bool false, .slice none 0 0] 37 _ rfl
    have Vq : Below w6.heap.size w6 wq := by rw [← hwq]; (repeat (first | with_reducible exact Below.refl _ _ | with_reducible refine below_drew ?_ | with_reducible refine below_drewN ?_ _ | with_reducible refine below_alloc ?_ (Nat.le_refl _) _ | with_reducible refine Below.setCell ?_ (by first | exact Nat.le_refl _ | (simp only []; omega)) _ | with_reducible assumption))
    rw [hwq] at G ⊢
    have Zq := Z6.below Vq
    have Tq := below_then R6 Vq
    have Dq := hbD.below Tq
    have zl := Z6.lt
    have rs := R6.size
    have hg : w.heap.size ≤ w6.heap.size := rs
    clear hwq
    refine region_txt 4 (by kernel_rfl) (by kernel_rfl) ?_; (iterate 4 (first | (apply ObsK.skip (by rfl)) | (apply ObsK.v (by rfl); (intro wo hT; (repeat (first | (intro _ _ k; try have hcv := cv k))); (have gc := (G.below hT).cell); refine Goes.mk ?_; go_simp; first | exact goes_v | exact goes_b (by assumption) | (refine goes_enter ?_; first | fail))) | (apply ObsK.b (by rfl); (intro wo hT; (repeat (first | (intro _ _ k; try have hcv := cv k))); (have gc := (G.below hT).cell); refine Goes.mk ?_; go_simp; first | exact goes_v | exact goes_b (by assumption) | (refine goes_enter ?_; first | fail))))); refine ObsK.nil ?_; intro wz hBz; simp only [finOn, List.drop_succ_cons, List.drop_zero, List.drop_nil]
    go_simp
    have G5 := G.below hBz
    have Z5 := Zq.below hBz
    have T5 := below_then Tq hBz
    have D5 := Dq.below hBz
    have gs := hBz.size
    have gl := G.lt
    go_wp2_with (first
      | (at_builtin; refine wpList_append_bs (w0 := wz) _ rfl _ _ _ rfl wz.heap.size 5 Try.underlying24 info_u8 none 0 0 [] rfl (own_nil _ _ _) A' n' c' _ rfl D5 (Below.refl _ _) (by omega) (by first | exact Nat.le_refl _ | exact Below.size (Below.refl _ _) | omega | (simp <;> omega)) ?_; intro A7 n7 c7 w7 ho7 hB7 _ hz7; have u7 : n7 = n' := (by have := ho7.len; have := D5.len; simp at *; omega); subst u7; replace ho7 : Own w7 wz.heap.size 5 A7 n7 c7 (p.dat.drop 8) := ho7; have G7 := G5.below hB7; have gc7 := G7.cell; (obtain ⟨w8, hw8, S8⟩ := store1 G7 3 (.slice A7 n7 c7)); simp only [List.setIfInBounds_toArray, List.set_cons_zero, List.set_cons_succ] at S8; have gc8 := S8.blk.cell; have Z8 := S8.other (by omega) (Z5.below hB7); have zc8 := Z8.cell; have T8 := S8.bel (below_then T5 hB7) (by omega); have O8 := S8.own ho7 (fun a e => by have := ho7.ge a e; omega)))
    obtain ⟨wf, hwf, Sf⟩ := store4 Z8 (.int .u16 v0) (.int .u16 v2) (.bool false) (.slice A7 n7 c7)
    rw [hwf]
    have pf := Sf.blk.cell
    have Of := Sf.own O8 (fun a e => by have := ho7.ge a e; omega)
    have s5 := T5.size
    refine bodyPost_ret (v := .tuple #[.agg #[.int .u16 v0, .int .u16 v2, .bool false, .slice A7 n7 c7], .int .i64 0]) (by simp [results, Try.results28, go_sem, pf]) rfl (by rw [HD.out]; exact ⟨A7, n7, c7, rfl, Of.mono s5, Sf.bel T8 (by omega)⟩)
theorem rudp_any (p : Pkt) (hp : p.Ok) (A1 : Option Addr) (n1 c1 : Nat) (A2 : Option Addr) (n2 c2 : Nat) (w : World) (k2 : Bs w A2 n2 c2 p.dat) :
    Calls Try.prog 28 #[(.agg #[.int .u8 (p).tos, .int .u16 (p).id, .bool (p).keep, .int .u8 (p).ttl, .int .u8 (p).proto, .int .u32 (p).src, .int .u32 (p).dst, .slice A1 n1 c1, .slice A2 n2 c2])] w (DgPost w (udD p) (udE p)) := by
  unfold udD
  rcases ud_ways p n2 k2.len with ⟨h0, h⟩ | ⟨h0, h1, h2, h3, h⟩
  · rw [if_neg h0]
    exact rudp_no p hp A1 n1 c1 A2 n2 c2 w k2 _ _ _ rfl rfl h
  · rw [if_pos h0, h0]
    exact rudp_ok p hp A1 n1 c1 A2 n2 c2 w k2 _ _ rfl rfl h1 h2 h3 h
end Go.Proofs.Ytjjhnjkmoogloaa

/- The packet with a datagram: segs.BuildUdp. -/
namespace Go.Proofs.Ytjjhnjkmoogloaa
open Go.RowKit
set_option linter.unusedVariables false
set_option linter.unusedSimpArgs false
set_option linter.unusedSimpArgs false
set_option maxHeartbeats 4000000
set_option maxRecDepth 100000

/-- The datagram's bytes, their sum 0; the sum that stands in them. -/
def dL (d : Dgm) : List UInt8 := ([] ++ twos [d.src, d.dst, (8 + (d.dat.length : Int)) % 65536, 0]) ++ d.dat
def dZ (p : Pkt) (d : Dgm) : Int := if psum p 17 (dL d) = 0 then 65535 else psum p 17 (dL d)
def dS (p : Pkt) (d : Dgm) : List UInt8 := if d.bare then dL d else put16 (dL d) 6 (dZ p d)
def dbE (p : Pkt) (d : Dgm) : Int := wiE p (8 + d.dat.length)
def dbP (p : Pkt) (d : Dgm) : Pkt := withP p 17 (dS p d)
theorem dL_len (d : Dgm) : (dL d).length = 8 + d.dat.length := by simp [dL, twos, two]; omega
theorem dS_len (p : Pkt) (d : Dgm) : (dS p d).length = 8 + d.dat.length := by
  unfold dS; split
  · exact dL_len d
  · rw [put16_length, dL_len]
theorem sx_isNew {g B : Nat} {cs : Array Value} {t : TypeId} (hg : g < B) : ∀ w w' v, isNew B cs t w v → w.grownBy w' (some g) → isNew B cs t w' v := fun _ _ _ ⟨b, e, h, k⟩ hE => ⟨b, e, h, k.ext hE (by omega)⟩
theorem dbuild_any (p : Pkt) (hp : p.Ok) (X1 : Option Addr) (m1 j1 : Nat) (X2 : Option Addr) (m2 j2 : Nat) (s : Dgm) (hs : s.Ok) (DA : Option Addr) (dn dc : Nat) (w : World) (k1 : Bs w X1 m1 j1 p.opt) (kd : Bs w DA dn dc s.dat)
    (hdn : dn ≤ 140737488351232) : Calls Try.prog 20 #[(.agg #[.int .u8 (p).tos, .int .u16 (p).id, .bool (p).keep, .int .u8 (p).ttl, .int .u8 (p).proto, .int .u32 (p).src, .int .u32 (p).dst, .slice X1 m1 j1, .slice X2 m2 j2]), (.agg #[.int .u16 (s).src, .int .u16 (s).dst, .bool (s).bare, .slice DA dn dc])] w (WiPost w (dbP p s) (dbE p s)) := by
  obtain ⟨⟨a0, a1⟩, ⟨d0, d1⟩⟩ := hs
  have hTs : 75 ≠ 5 := by decide
  have h77 : 26 ≠ 5 := by decide
  have h78 : 37 ≠ 5 := by decide
  have ld := kd.len
  obtain ⟨z, hz⟩ : ∃ z : Int, (8 + (dn : Int)) % 65536 = z := ⟨_, rfl⟩
  have z0 : 0 ≤ z := by omega
  have z1 : z ≤ 65535 := by omega
  obtain ⟨y, hy⟩ : ∃ y : Int, 8 + (dn : Int) = y := ⟨_, rfl⟩
  have hw8 : IntKind.i64.wrap (8 + (dn : Int)) = y := by rw [IntKind.wrap_i64]; omega
  have hwy : IntKind.u16.wrap y = z := by rw [IntKind.wrap_u16]; omega
  have HL : Hid (([] ++ twos [s.src, s.dst, z, 0]) ++ s.dat = dL s) := by unfold Hid dL; rw [ld, hz]
  have HN : Hid ((dL s).length = 8 + dn) := by unfold Hid; rw [dL_len, ld]
  have HLD := Lib.hid ld
  have HY := Lib.hid hy
  clear ld hz hy
  obtain ⟨k, hk⟩ : ∃ k : Nat, w.heap.size = k := ⟨_, rfl⟩
  obtain ⟨w1, hw1⟩ : ∃ W, ((((w.alloc (.cells #[.int .u8 (p).tos, .int .u16 (p).id, .bool (p).keep, .int .u8 (p).ttl, .int .u8 (p).proto, .int .u32 (p).src, .int .u32 (p).dst, .slice X1 m1 j1, .slice X2 m2 j2] 26)).alloc (.cells #[.int .u16 (s).src, .int .u16 (s).dst, .bool (s).bare, .slice DA dn dc] 37)).alloc (.cells #[.int .u8 0, .int .u16 0, .bool false, .int .u8 0, .int .u8 0, .int .u32 0, .int .u32 0, .slice none 0 0, .slice none 0 0] 26)).alloc (.cells #[.slice none 0 0] 75)) = W := ⟨_, rfl⟩
  have P1 : Blk w1 k #[.int .u8 (p).tos, .int .u16 (p).id, .bool (p).keep, .int .u8 (p).ttl, .int .u8 (p).proto, .int .u32 (p).src, .int .u32 (p).dst, .slice X1 m1 j1, .slice X2 m2 j2] 26 := by rw [← hw1]; exact ((((blk_new _ _ _ k (by simp [hk])).alloc _).alloc _).alloc _)
  have S1 : Blk w1 (k + 1) #[.int .u16 (s).src, .int .u16 (s).dst, .bool (s).bare, .slice DA dn dc] 37 := by rw [← hw1]; exact (((blk_new _ _ _ (k + 1) (by simp [hk])).alloc _).alloc _)
  have Z1 : Blk w1 (k + 1 + 1) #[.int .u8 0, .int .u16 0, .bool false, .int .u8 0, .int .u8 0, .int .u32 0, .int .u32 0, .slice none 0 0, .slice none 0 0] 26 := by rw [← hw1]; exact ((blk_new _ _ _ (k + 1 + 1) (by simp [hk])).alloc _)
  have H1 : Blk w1 (k + 1 + 1 + 1) #[.slice none 0 0] 75 := by rw [← hw1]; exact (blk_new _ _ _ (k + 1 + 1 + 1) (by simp [hk]))
  have R1 : Below w.heap.size w w1 := by rw [← hw1]; (repeat (first | with_reducible exact Below.refl _ _ | with_reducible refine below_drew ?_ | with_reducible refine below_drewN ?_ _ | with_reducible refine below_alloc ?_ (Nat.le_refl _) _ | with_reducible refine Below.setCell ?_ (by first | exact Nat.le_refl _ | (simp only []; omega)) _ | with_reducible assumption))
  have Pc1 := P1.cell
  have Sc1 := S1.cell
  have Zc1 := Z1.cell
  have Hc1 := H1.cell
  have Pl1 := P1.lt
  have Sl1 := S1.lt
  have Zl1 := Z1.lt
  have Hl1 := H1.lt
  go_enter Try.func20, Try.ntmps20
  obtain ⟨g2, hg2⟩ : ∃ g : Nat, w1.heap.size = g := ⟨_, rfl⟩
  obtain ⟨v1, hv1⟩ : ∃ W, w1.alloc (.cells #[.int .u16 s.src, .int .u16 s.dst, .int .u16 z, .int .u16 0] 22) = W := ⟨_, rfl⟩
  have G2 : Blk v1 g2 (u16s [s.src, s.dst, z, 0]) 22 := by rw [← hv1]; exact blk_new w1 _ _ _ hg2
  have Vv : Below w1.heap.size w1 v1 := by rw [← hv1]; (repeat (first | with_reducible exact Below.refl _ _ | with_reducible refine below_drew ?_ | with_reducible refine below_drewN ?_ _ | with_reducible refine below_alloc ?_ (Nat.le_refl _) _ | with_reducible refine Below.setCell ?_ (by first | exact Nat.le_refl _ | (simp only []; omega)) _ | with_reducible assumption))
  have hk1 : w.heap.size ≤ k := Nat.le_of_eq hk
  have hk2 : k ≤ w.heap.size := Nat.le_of_eq hk.symm
  have zs1 := Vv.size
  have rs1 := R1.size
  have h2 := htwo_any w.heap.size w.heap.size (k + 1 + 1 + 1) #[.slice none 0 0] 75 none 0 0 [] g2 4 4 [s.src, s.dst, z, 0] rfl (by omega) v1 (H1.below Vv) rfl (own_nil _ _ _) (by omega) G2 (by intro x hx; simp at hx; omega) hTs (by omega) (by omega) (Nat.le_refl _) (by omega) (by omega)
  go_wp2_with (go_at_call 45; ((with_reducible refine (h2).mono ?_); rintro e w2 hpost); (obtain ⟨rfl, A2, n2, c2, H2, O2, B2, K2⟩ := hpost.out); simp only [List.setIfInBounds_toArray, List.set_cons_zero] at H2)
  have u2 : n2 = 8 := by rw [← O2.len]; simp [twos, two]
  subst u2
  have R2 := (R1.trans (Vv.mono (by omega))).trans B2
  have P2 := K2 k _ _ h77 (by omega) (P1.below Vv)
  have S2 := K2 (k + 1) _ _ h78 (by omega) (S1.below Vv)
  have Z2 := K2 (k + 1 + 1) _ _ h77 (by omega) (Z1.below Vv)
  obtain ⟨ga, rfl, gb, gl⟩ := O2.ptr (by omega)
  have nP := O2.ne_blk P2 h77 ga rfl
  have nS := O2.ne_blk S2 h78 ga rfl
  have nZ := O2.ne_blk Z2 h77 ga rfl
  have nH := O2.ne_blk H2 hTs ga rfl
  obtain ⟨E, hE'⟩ : ∃ E, dbE p s = E := ⟨_, rfl⟩
  obtain ⟨P, hP⟩ : ∃ P, P = withP p 17 (dL s) := ⟨_, rfl⟩
  have hw2 := fun W A n c k1 k3 hb => swith_all p X1 m1 j1 X2 m2 j2 17 (([] ++ twos [s.src, s.dst, z, 0]) ++ s.dat) P E (by rw [HL.out, dL_len]; exact hE') (by rw [HL.out]; exact hP) w.heap.size A n c W k1 k3 hb
  have HE := Lib.hid hE'
  have HP := Lib.hid hP
  have rs2 := R2.size
  clear hE' hP H1 P1 S1 Z1 Pc1 Sc1 Zc1 Hc1 Pl1 Sl1 Zl1 Hl1 R1 rs1 zs1 Vv G2 hg2 hv1 hw1 hk hpost h2 B2 K2
  refine regionXZ 13 11 [7] ga (fun c W => match c with | 0 => Own W w.heap.size 5 (some ⟨ga, 0, none⟩) 8 c2 ([] ++ twos [s.src, s.dst, z, 0]) | _ + 1 => True) (by kernel_rfl) (by kernel_rfl) (fun _ _ _ _ _ h => h) (by kernel_rfl) (by kernel_rfl) O2 (fun c W W' hj hb => by cases c with | zero => exact Own.below hj hb | succ n => trivial) ?_; (iterate 13 (first | (apply ObsY.skip (by rfl) (by rfl)) | (apply ObsY.v (by rfl) (by rfl); (intro wo hE; (repeat (first | (intro v hv; ((first | (obtain ⟨A7, n7, c7, rfl, o7⟩ := hv) | (obtain ⟨D1, g1, h1', D2, g2', h2', rfl, o13, o14⟩ := hv)))) | (intro _ _ k; try have hcv := cv k))); (have pco := (P2.ext hE (Ne.symm nP)).cell; have sco := (S2.ext hE (Ne.symm nS)).cell; have hco := (H2.ext hE (Ne.symm nH)).cell; have Ro := below_ext R2 hE gb rs2; have xo := k1.below Ro; have yo := kd.below Ro; have hsz := hE.size); refine Goes.mk ?_; first | (exact goes_appX _ _ rfl rfl hj (fun k e => by simp [Value.ownBlock] at e; exact e.symm) rfl yo (by omega) (by omega) (fun _ => trivial)) | (go_simp; first | exact goes_v | (first | exact goes_tup (by assumption) (by assumption) | exact goes_pk (by assumption) (by assumption) | exact goes_new hsz) | (refine goes_enter ?_; first | (go_at_call 48; ((with_reducible refine (hw2 wo A7 n7 c7 xo o7 (by omega)).mono ?_); rintro e w9 ⟨D1, g1, h1', D2, g2', h2', rfl, o13, o14, hB9⟩); exact ret_tup (P := P) o13 o14 hB9))))) | (apply ObsY.p (q := isNew w2.heap.size #[.int .u8 0, .int .u16 0, .bool false, .int .u8 0, .int .u8 0, .int .u32 0, .int .u32 0, .slice none 0 0, .slice none 0 0] 26) (by rfl) (by rfl) st_isNew (sx_isNew gl); (intro wo hE; (repeat (first | (intro v hv; ((first | (obtain ⟨A7, n7, c7, rfl, o7⟩ := hv) | (obtain ⟨D1, g1, h1', D2, g2', h2', rfl, o13, o14⟩ := hv)))) | (intro _ _ k; try have hcv := cv k))); (have pco := (P2.ext hE (Ne.symm nP)).cell; have sco := (S2.ext hE (Ne.symm nS)).cell; have hco := (H2.ext hE (Ne.symm nH)).cell; have Ro := below_ext R2 hE gb rs2; have xo := k1.below Ro; have yo := kd.below Ro; have hsz := hE.size); refine Goes.mk ?_; first | (exact goes_appX _ _ rfl rfl hj (fun k e => by simp [Value.ownBlock] at e; exact e.symm) rfl yo (by omega) (by omega) (fun _ => trivial)) | (go_simp; first | exact goes_v | (first | exact goes_tup (by assumption) (by assumption) | exact goes_pk (by assumption) (by assumption) | exact goes_new hsz) | (refine goes_enter ?_; first | (go_at_call 48; ((with_reducible refine (hw2 wo A7 n7 c7 xo o7 (by omega)).mono ?_); rintro e w9 ⟨D1, g1, h1', D2, g2', h2', rfl, o13, o14, hB9⟩); exact ret_tup (P := P) o13 o14 hB9))))) | (apply ObsY.ev (by rfl) (by rfl); (intro wo hE hj; (repeat (first | (intro v hv; ((first | (obtain ⟨A7, n7, c7, rfl, o7⟩ := hv) | (obtain ⟨D1, g1, h1', D2, g2', h2', rfl, o13, o14⟩ := hv)))) | (intro _ _ k; try have hcv := cv k))); (have pco := (P2.ext hE (Ne.symm nP)).cell; have sco := (S2.ext hE (Ne.symm nS)).cell; have hco := (H2.ext hE (Ne.symm nH)).cell; have Ro := below_ext R2 hE gb rs2; have xo := k1.below Ro; have yo := kd.below Ro; have hsz := hE.size); refine GoesX.mk ?_; first | (exact goes_appX _ _ rfl rfl hj (fun k e => by simp [Value.ownBlock] at e; exact e.symm) rfl yo (by omega) (by omega) (fun _ => trivial)) | (go_simp; first | exact goes_v | (first | exact goes_tup (by assumption) (by assumption) | exact goes_pk (by assumption) (by assumption) | exact goes_new hsz) | (refine goes_enter ?_; first | (go_at_call 48; ((with_reducible refine (hw2 wo A7 n7 c7 xo o7 (by omega)).mono ?_); rintro e w9 ⟨D1, g1, h1', D2, g2', h2', rfl, o13, o14, hB9⟩); exact ret_tup (P := P) o13 o14 hB9))))) | (apply ObsY.ep (q := isW w.heap.size (([] ++ twos [s.src, s.dst, z, 0]) ++ s.dat)) (by rfl) (by rfl) (by rfl) st_isW; (intro wo hE hj; (repeat (first | (intro v hv; ((first | (obtain ⟨A7, n7, c7, rfl, o7⟩ := hv) | (obtain ⟨D1, g1, h1', D2, g2', h2', rfl, o13, o14⟩ := hv)))) | (intro _ _ k; try have hcv := cv k))); (have pco := (P2.ext hE (Ne.symm nP)).cell; have sco := (S2.ext hE (Ne.symm nS)).cell; have hco := (H2.ext hE (Ne.symm nH)).cell; have Ro := below_ext R2 hE gb rs2; have xo := k1.below Ro; have yo := kd.below Ro; have hsz := hE.size); refine GoesX.mk ?_; first | (exact goes_appX _ _ rfl rfl hj (fun k e => by simp [Value.ownBlock] at e; exact e.symm) rfl yo (by omega) (by omega) (fun _ => trivial)) | (go_simp; first | exact goes_v | (first | exact goes_tup (by assumption) (by assumption) | exact goes_pk (by assumption) (by assumption) | exact goes_new hsz) | (refine goes_enter ?_; first | (go_at_call 48; ((with_reducible refine (hw2 wo A7 n7 c7 xo o7 (by omega)).mono ?_); rintro e w9 ⟨D1, g1, h1', D2, g2', h2', rfl, o13, o14, hB9⟩); exact ret_tup (P := P) o13 o14 hB9))))) | (apply ObsY.ep (q := isTup w.heap.size P E) (by rfl) (by rfl) (by rfl) st_isTup; (intro wo hE hj; (repeat (first | (intro v hv; ((first | (obtain ⟨A7, n7, c7, rfl, o7⟩ := hv) | (obtain ⟨D1, g1, h1', D2, g2', h2', rfl, o13, o14⟩ := hv)))) | (intro _ _ k; try have hcv := cv k))); (have pco := (P2.ext hE (Ne.symm nP)).cell; have sco := (S2.ext hE (Ne.symm nS)).cell; have hco := (H2.ext hE (Ne.symm nH)).cell; have Ro := below_ext R2 hE gb rs2; have xo := k1.below Ro; have yo := kd.below Ro; have hsz := hE.size); refine GoesX.mk ?_; first | (exact goes_appX _ _ rfl rfl hj (fun k e => by simp [Value.ownBlock] at e; exact e.symm) rfl yo (by omega) (by omega) (fun _ => trivial)) | (go_simp; first | exact goes_v | (first | exact goes_tup (by assumption) (by assumption) | exact goes_pk (by assumption) (by assumption) | exact goes_new hsz) | (refine goes_enter ?_; first | (go_at_call 48; ((with_reducible refine (hw2 wo A7 n7 c7 xo o7 (by omega)).mono ?_); rintro e w9 ⟨D1, g1, h1', D2, g2', h2', rfl, o13, o14, hB9⟩); exact ret_tup (P := P) o13 o14 hB9))))) | (apply ObsY.ep (q := isPk w.heap.size P) (by rfl) (by rfl) (by rfl) st_isPk; (intro wo hE hj; (repeat (first | (intro v hv; ((first | (obtain ⟨A7, n7, c7, rfl, o7⟩ := hv) | (obtain ⟨D1, g1, h1', D2, g2', h2', rfl, o13, o14⟩ := hv)))) | (intro _ _ k; try have hcv := cv k))); (have pco := (P2.ext hE (Ne.symm nP)).cell; have sco := (S2.ext hE (Ne.symm nS)).cell; have hco := (H2.ext hE (Ne.symm nH)).cell; have Ro := below_ext R2 hE gb rs2; have xo := k1.below Ro; have yo := kd.below Ro; have hsz := hE.size); refine GoesX.mk ?_; first | (exact goes_appX _ _ rfl rfl hj (fun k e => by simp [Value.ownBlock] at e; exact e.symm) rfl yo (by omega) (by omega) (fun _ => trivial)) | (go_simp; first | exact goes_v | (first | exact goes_tup (by assumption) (by assumption) | exact goes_pk (by assumption) (by assumption) | exact goes_new hsz) | (refine goes_enter ?_; first | (go_at_call 48; ((with_reducible refine (hw2 wo A7 n7 c7 xo o7 (by omega)).mono ?_); rintro e w9 ⟨D1, g1, h1', D2, g2', h2', rfl, o13, o14, hB9⟩); exact ret_tup (P := P) o13 o14 hB9))))) | (apply ObsY.ep (q := isNew w2.heap.size #[.int .u8 0, .int .u16 0, .bool false, .int .u8 0, .int .u8 0, .int .u32 0, .int .u32 0, .slice none 0 0, .slice none 0 0] 26) (by rfl) (by rfl) (by rfl) st_isNew; (intro wo hE hj; (repeat (first | (intro v hv; ((first | (obtain ⟨A7, n7, c7, rfl, o7⟩ := hv) | (obtain ⟨D1, g1, h1', D2, g2', h2', rfl, o13, o14⟩ := hv)))) | (intro _ _ k; try have hcv := cv k))); (have pco := (P2.ext hE (Ne.symm nP)).cell; have sco := (S2.ext hE (Ne.symm nS)).cell; have hco := (H2.ext hE (Ne.symm nH)).cell; have Ro := below_ext R2 hE gb rs2; have xo := k1.below Ro; have yo := kd.below Ro; have hsz := hE.size); refine GoesX.mk ?_; first | (exact goes_appX _ _ rfl rfl hj (fun k e => by simp [Value.ownBlock] at e; exact e.symm) rfl yo (by omega) (by omega) (fun _ => trivial)) | (go_simp; first | exact goes_v | (first | exact goes_tup (by assumption) (by assumption) | exact goes_pk (by assumption) (by assumption) | exact goes_new hsz) | (refine goes_enter ?_; first | (go_at_call 48; ((with_reducible refine (hw2 wo A7 n7 c7 xo o7 (by omega)).mono ?_); rintro e w9 ⟨D1, g1, h1', D2, g2', h2', rfl, o13, o14, hB9⟩); exact ret_tup (P := P) o13 o14 hB9))))) | (apply ObsY.ap (q := isW w.heap.size (([] ++ twos [s.src, s.dst, z, 0]) ++ s.dat)) (by rfl) (by rfl) (by kernel_rfl) st_isW; (intro wo hE; (repeat (first | (intro v hv; ((first | (obtain ⟨A7, n7, c7, rfl, o7⟩ := hv) | (obtain ⟨D1, g1, h1', D2, g2', h2', rfl, o13, o14⟩ := hv)))) | (intro _ _ k; try have hcv := cv k))); (have pco := (P2.ext hE (Ne.symm nP)).cell; have sco := (S2.ext hE (Ne.symm nS)).cell; have hco := (H2.ext hE (Ne.symm nH)).cell; have Ro := below_ext R2 hE gb rs2; have xo := k1.below Ro; have yo := kd.below Ro; have hsz := hE.size); refine Goes.mk ?_; first | (exact goes_appX _ _ rfl rfl hj (fun k e => by simp [Value.ownBlock] at e; exact e.symm) rfl yo (by omega) (by omega) (fun _ => trivial)) | (go_simp; first | exact goes_v | (first | exact goes_tup (by assumption) (by assumption) | exact goes_pk (by assumption) (by assumption) | exact goes_new hsz) | (refine goes_enter ?_; first | (go_at_call 48; ((with_reducible refine (hw2 wo A7 n7 c7 xo o7 (by omega)).mono ?_); rintro e w9 ⟨D1, g1, h1', D2, g2', h2', rfl, o13, o14, hB9⟩); exact ret_tup (P := P) o13 o14 hB9))))) | (apply ObsY.ap (q := isTup w.heap.size P E) (by rfl) (by rfl) (by kernel_rfl) st_isTup; (intro wo hE; (repeat (first | (intro v hv; ((first | (obtain ⟨A7, n7, c7, rfl, o7⟩ := hv) | (obtain ⟨D1, g1, h1', D2, g2', h2', rfl, o13, o14⟩ := hv)))) | (intro _ _ k; try have hcv := cv k))); (have pco := (P2.ext hE (Ne.symm nP)).cell; have sco := (S2.ext hE (Ne.symm nS)).cell; have hco := (H2.ext hE (Ne.symm nH)).cell; have Ro := below_ext R2 hE gb rs2; have xo := k1.below Ro; have yo := kd.below Ro; have hsz := hE.size); refine Goes.mk ?_; first | (exact goes_appX _ _ rfl rfl hj (fun k e => by simp [Value.ownBlock] at e; exact e.symm) rfl yo (by omega) (by omega) (fun _ => trivial)) | (go_simp; first | exact goes_v | (first | exact goes_tup (by assumption) (by assumption) | exact goes_pk (by assumption) (by assumption) | exact goes_new hsz) | (refine goes_enter ?_; first | (go_at_call 48; ((with_reducible refine (hw2 wo A7 n7 c7 xo o7 (by omega)).mono ?_); rintro e w9 ⟨D1, g1, h1', D2, g2', h2', rfl, o13, o14, hB9⟩); exact ret_tup (P := P) o13 o14 hB9))))) | (apply ObsY.ap (q := isPk w.heap.size P) (by rfl) (by rfl) (by kernel_rfl) st_isPk; (intro wo hE; (repeat (first | (intro v hv; ((first | (obtain ⟨A7, n7, c7, rfl, o7⟩ := hv) | (obtain ⟨D1, g1, h1', D2, g2', h2', rfl, o13, o14⟩ := hv)))) | (intro _ _ k; try have hcv := cv k))); (have pco := (P2.ext hE (Ne.symm nP)).cell; have sco := (S2.ext hE (Ne.symm nS)).cell; have hco := (H2.ext hE (Ne.symm nH)).cell; have Ro := below_ext R2 hE gb rs2; have xo := k1.below Ro; have yo := kd.below Ro; have hsz := hE.size); refine Goes.mk ?_; first | (exact goes_appX _ _ rfl rfl hj (fun k e => by simp [Value.ownBlock] at e; exact e.symm) rfl yo (by omega) (by omega) (fun _ => trivial)) | (go_simp; first | exact goes_v | (first | exact goes_tup (by assumption) (by assumption) | exact goes_pk (by assumption) (by assumption) | exact goes_new hsz) | (refine goes_enter ?_; first | (go_at_call 48; ((with_reducible refine (hw2 wo A7 n7 c7 xo o7 (by omega)).mono ?_); rintro e w9 ⟨D1, g1, h1', D2, g2', h2', rfl, o13, o14, hB9⟩); exact ret_tup (P := P) o13 o14 hB9))))) | (apply ObsY.ap (q := isNew w2.heap.size #[.int .u8 0, .int .u16 0, .bool false, .int .u8 0, .int .u8 0, .int .u32 0, .int .u32 0, .slice none 0 0, .slice none 0 0] 26) (by rfl) (by rfl) (by kernel_rfl) st_isNew; (intro wo hE; (repeat (first | (intro v hv; ((first | (obtain ⟨A7, n7, c7, rfl, o7⟩ := hv) | (obtain ⟨D1, g1, h1', D2, g2', h2', rfl, o13, o14⟩ := hv)))) | (intro _ _ k; try have hcv := cv k))); (have pco := (P2.ext hE (Ne.symm nP)).cell; have sco := (S2.ext hE (Ne.symm nS)).cell; have hco := (H2.ext hE (Ne.symm nH)).cell; have Ro := below_ext R2 hE gb rs2; have xo := k1.below Ro; have yo := kd.below Ro; have hsz := hE.size); refine Goes.mk ?_; first | (exact goes_appX _ _ rfl rfl hj (fun k e => by simp [Value.ownBlock] at e; exact e.symm) rfl yo (by omega) (by omega) (fun _ => trivial)) | (go_simp; first | exact goes_v | (first | exact goes_tup (by assumption) (by assumption) | exact goes_pk (by assumption) (by assumption) | exact goes_new hsz) | (refine goes_enter ?_; first | (go_at_call 48; ((with_reducible refine (hw2 wo A7 n7 c7 xo o7 (by omega)).mono ?_); rintro e w9 ⟨D1, g1, h1', D2, g2', h2', rfl, o13, o14, hB9⟩); exact ret_tup (P := P) o13 o14 hB9))))))); refine ObsY.nil ?_; intro wz hEz hJz; simp only [finOn, List.drop_succ_cons, List.drop_zero, List.drop_nil]
  rintro v12 ⟨gq, rfl, hgq, Q⟩ v10 ⟨D1, g1, h1', D2, g2', h2', rfl, O13, O14⟩ v9 hv9 v8 hv8 v7 hv7
  go_simp
  clear hv9 hv8 hv7
  have Q7 := Q.cell
  have Z7 := Z2.ext hEz (Ne.symm nZ)
  have S7 := S2.ext hEz (Ne.symm nS)
  have R7 := below_ext R2 hEz gb rs2
  have qneZ : k + 1 + 1 ≠ gq := by have := Z2.lt; omega
  have qneS : k + 1 ≠ gq := by have := S2.lt; omega
  obtain ⟨wf, hwf, Sf⟩ := store9 Q (.int .u8 P.tos) (.int .u16 P.id) (.bool P.keep) (.int .u8 P.ttl) (.int .u8 P.proto) (.int .u32 P.src) (.int .u32 P.dst) (.slice D1 g1 h1') (.slice D2 g2' h2')
  have Qf := Sf.blk
  have Zf := Sf.other qneZ Z7
  have Sgf := Sf.other qneS S7
  have Of := Sf.own O13 (fun a e => O13.ne_blk Q h77 a.block (by rw [e]; rfl))
  have Df := Sf.own O14 (fun a e => O14.ne_blk Q h77 a.block (by rw [e]; rfl))
  have Rf := Sf.bel R7 (by omega)
  have qcf := Qf.cell
  have zcf := Zf.cell
  have scf := Sgf.cell
  clear Sf O13 O14
  by_cases hE0 : E = 0
  · subst hE0
    rcases Bool.eq_false_or_eq_true s.bare with hb | hb
    · have HPP : Hid (dbP p s = P) := by unfold Hid dbP dS; rw [hb, if_pos rfl]; exact HP.out.symm
      clear hw2
      go_wp2_with fail
      obtain ⟨wh, hwh, Sh⟩ := store9 Zf (.int .u8 P.tos) (.int .u16 P.id) (.bool P.keep) (.int .u8 P.ttl) (.int .u8 P.proto) (.int .u32 P.src) (.int .u32 P.dst) (.slice D1 g1 h1') (.slice D2 g2' h2')
      rw [hwh]
      have ph := Sh.blk.cell
      have Oh := Sh.own Of (fun a e => Of.ne_blk Zf h77 a.block (by rw [e]; rfl))
      have Dh := Sh.own Df (fun a e => Df.ne_blk Zf h77 a.block (by rw [e]; rfl))
      exact bodyPost_ret (v := .tuple #[(.agg #[.int .u8 (P).tos, .int .u16 (P).id, .bool (P).keep, .int .u8 (P).ttl, .int .u8 (P).proto, .int .u32 (P).src, .int .u32 (P).dst, .slice D1 g1 h1', .slice D2 g2' h2']), .int .i64 0]) (by simp [results, Try.results20, go_sem, ph]) rfl (by rw [HE.out, HPP.out]; exact ⟨⟨D1, g1, h1', D2, g2', h2', rfl, Oh, Dh, Sh.bel Rf (by omega)⟩⟩)
    · have hp1 : P = { p with proto := 17, dat := dL s } := by rw [HP.out]; unfold withP; rw [dL_len, show wiE p (8 + s.dat.length) = 0 from HE.out, if_pos rfl]
      have HPP : Hid (dbP p s = { p with proto := 17, dat := dS p s }) := by unfold Hid dbP withP; rw [dS_len, show wiE p (8 + s.dat.length) = 0 from HE.out, if_pos rfl]
      clear HP hw2
      subst hp1
      have hp' : ({ p with proto := 17, dat := dL s } : Pkt).Ok := by
        obtain ⟨e1, e2, e3, e4, e5, e6⟩ := hp
        exact ⟨e1, e2, e3, ⟨by show (0 : Int) ≤ 17; omega, by show (17 : Int) ≤ 255; omega⟩, e5, e6⟩
      have Dfb := Df.bs
      have g1b : g2' ≤ 140737488400000 := by
        have h1 := Df.len
        have h2 : (dL s).length = g2' := h1
        rw [HN.out] at h2
        omega
      obtain ⟨zz, hzz⟩ : ∃ z, psum p 17 (dL s) = z := ⟨_, rfl⟩
      have zz0 : 0 ≤ zz := by rw [← hzz]; exact csum_lo _
      have zz1 : zz ≤ 65535 := by rw [← hzz]; exact csum_hi _
      have hsum : ∀ W, Bs W D2 g2' h2' (dL s) → Calls Try.prog 51 #[(.agg #[.int .u8 ({ p with proto := 17, dat := dL s }).tos, .int .u16 ({ p with proto := 17, dat := dL s }).id, .bool ({ p with proto := 17, dat := dL s }).keep, .int .u8 ({ p with proto := 17, dat := dL s }).ttl, .int .u8 ({ p with proto := 17, dat := dL s }).proto, .int .u32 ({ p with proto := 17, dat := dL s }).src, .int .u32 ({ p with proto := 17, dat := dL s }).dst, .slice D1 g1 h1', .slice D2 g2' h2']), .int .u8 17, .slice D2 g2' h2'] W fun e w' => e = .returned (.int .u16 zz) ∧ Below W.heap.size W w' := fun W bo => by
        have := ssum_any { p with proto := 17, dat := dL s } hp' D1 g1 h1' D2 g2' h2' 17 (by omega) (by omega) D2 g2' h2' (dL s) W bo g1b
        rw [← hzz]
        exact this
      clear hp' hp
      by_cases hz0 : zz = 0
      · subst hz0
        have HS : Hid (put16 (dL s) 6 65535 = dS p s) := by unfold Hid dS dZ; rw [hb, hzz]; rfl
        clear hzz
        go_wp2_with (first
        | (go_at_call 51; ((with_reducible refine (hsum wf Dfb).mono ?_); rintro e w8 ⟨rfl, hB8⟩); have Q8 := Qf.below hB8; have Z8 := Zf.below hB8; have O8 := Of.below hB8; have D8b := Dfb.below hB8; have R8 := Rf.trans (hB8.mono Rf.size); have q8 := Q8.cell)
        | (go_at_call 50; ((with_reducible refine (put16_any D2 g2' h2' (dL s) 6 65535 (by omega) (by omega) w8 D8b).mono ?_); rintro e w9 ⟨A9, c9, rfl, O9, hB9⟩); rw [HS.out] at O9; have Q9 := Q8.below hB9; have q9 := Q9.cell; have Z9 := Z8.below hB9; have OP9 := O8.below hB9; have R9 := R8.trans (hB9.mono R8.size); have O9' := O9.mono R8.size; (obtain ⟨wg, hwg, Sg⟩ := store1 Q9 8 (.slice A9 g2' c9)); simp only [List.setIfInBounds_toArray, List.set_cons_zero, List.set_cons_succ] at Sg; have qg := Sg.blk.cell; have Zg := Sg.other qneZ Z9; have zg := Zg.cell; have Og := Sg.own OP9 (fun a e => OP9.ne_blk Q9 h77 a.block (by rw [e]; rfl)); have Dg := Sg.own O9' (fun a e => O9'.ne_blk Q9 h77 a.block (by rw [e]; rfl)); have Rg := Sg.bel R9 (by omega)))
        obtain ⟨wh, hwh, Sh⟩ := store9 Zg (.int .u8 p.tos) (.int .u16 p.id) (.bool p.keep) (.int .u8 p.ttl) (.int .u8 17) (.int .u32 p.src) (.int .u32 p.dst) (.slice D1 g1 h1') (.slice A9 g2' c9)
        rw [hwh]
        have ph := Sh.blk.cell
        have Oh := Sh.own Og (fun a e => Og.ne_blk Zg h77 a.block (by rw [e]; rfl))
        have Dh := Sh.own Dg (fun a e => Dg.ne_blk Zg h77 a.block (by rw [e]; rfl))
        exact bodyPost_ret (v := .tuple #[.agg #[.int .u8 p.tos, .int .u16 p.id, .bool p.keep, .int .u8 p.ttl, .int .u8 17, .int .u32 p.src, .int .u32 p.dst, .slice D1 g1 h1', .slice A9 g2' c9], .int .i64 0]) (by simp [results, Try.results20, go_sem, ph]) rfl (by rw [HE.out, HPP.out]; exact ⟨⟨D1, g1, h1', A9, g2', c9, rfl, Oh, Dh, Sh.bel Rg (by omega)⟩⟩)
      · have HS : Hid (put16 (dL s) 6 zz = dS p s) := by unfold Hid dS dZ; rw [hb, hzz, if_neg hz0]; rfl
        have z0b : (zz == 0) = false := by simpa using hz0
        clear hzz
        go_wp2_with (first
        | (go_at_call 51; ((with_reducible refine (hsum wf Dfb).mono ?_); rintro e w8 ⟨rfl, hB8⟩); have Q8 := Qf.below hB8; have Z8 := Zf.below hB8; have O8 := Of.below hB8; have D8b := Dfb.below hB8; have R8 := Rf.trans (hB8.mono Rf.size); have q8 := Q8.cell)
        | (go_at_call 50; ((with_reducible refine (put16_any D2 g2' h2' (dL s) 6 zz zz0 zz1 w8 D8b).mono ?_); rintro e w9 ⟨A9, c9, rfl, O9, hB9⟩); rw [HS.out] at O9; have Q9 := Q8.below hB9; have q9 := Q9.cell; have Z9 := Z8.below hB9; have OP9 := O8.below hB9; have R9 := R8.trans (hB9.mono R8.size); have O9' := O9.mono R8.size; (obtain ⟨wg, hwg, Sg⟩ := store1 Q9 8 (.slice A9 g2' c9)); simp only [List.setIfInBounds_toArray, List.set_cons_zero, List.set_cons_succ] at Sg; have qg := Sg.blk.cell; have Zg := Sg.other qneZ Z9; have zg := Zg.cell; have Og := Sg.own OP9 (fun a e => OP9.ne_blk Q9 h77 a.block (by rw [e]; rfl)); have Dg := Sg.own O9' (fun a e => O9'.ne_blk Q9 h77 a.block (by rw [e]; rfl)); have Rg := Sg.bel R9 (by omega)))
        obtain ⟨wh, hwh, Sh⟩ := store9 Zg (.int .u8 p.tos) (.int .u16 p.id) (.bool p.keep) (.int .u8 p.ttl) (.int .u8 17) (.int .u32 p.src) (.int .u32 p.dst) (.slice D1 g1 h1') (.slice A9 g2' c9)
        rw [hwh]
        have ph := Sh.blk.cell
        have Oh := Sh.own Og (fun a e => Og.ne_blk Zg h77 a.block (by rw [e]; rfl))
        have Dh := Sh.own Dg (fun a e => Dg.ne_blk Zg h77 a.block (by rw [e]; rfl))
        exact bodyPost_ret (v := .tuple #[.agg #[.int .u8 p.tos, .int .u16 p.id, .bool p.keep, .int .u8 p.ttl, .int .u8 17, .int .u32 p.src, .int .u32 p.dst, .slice D1 g1 h1', .slice A9 g2' c9], .int .i64 0]) (by simp [results, Try.results20, go_sem, ph]) rfl (by rw [HE.out, HPP.out]; exact ⟨⟨D1, g1, h1', A9, g2', c9, rfl, Oh, Dh, Sh.bel Rg (by omega)⟩⟩)
  · have HPP : Hid (dbP p s = P) := by
      have h1 : wiE p (8 + s.dat.length) ≠ 0 := by rw [show wiE p (8 + s.dat.length) = E from HE.out]; exact hE0
      unfold Hid dbP withP
      rw [dS_len, if_neg h1, HP.out]
      unfold withP
      rw [dL_len, if_neg h1]
    have e0 : (E == 0) = false := by simpa using hE0
    have e1 : decide (E = 0) = false := by simpa using hE0
    clear hw2
    go_wp2_with fail
    obtain ⟨wh, hwh, Sh⟩ := store9 Zf (.int .u8 P.tos) (.int .u16 P.id) (.bool P.keep) (.int .u8 P.ttl) (.int .u8 P.proto) (.int .u32 P.src) (.int .u32 P.dst) (.slice D1 g1 h1') (.slice D2 g2' h2')
    rw [hwh]
    have ph := Sh.blk.cell
    have Oh := Sh.own Of (fun a e => Of.ne_blk Zf h77 a.block (by rw [e]; rfl))
    have Dh := Sh.own Df (fun a e => Df.ne_blk Zf h77 a.block (by rw [e]; rfl))
    exact bodyPost_ret (v := .tuple #[(.agg #[.int .u8 (P).tos, .int .u16 (P).id, .bool (P).keep, .int .u8 (P).ttl, .int .u8 (P).proto, .int .u32 (P).src, .int .u32 (P).dst, .slice D1 g1 h1', .slice D2 g2' h2']), .int .i64 E]) (by simp [results, Try.results20, go_sem, ph]) rfl (by rw [HE.out, HPP.out]; exact ⟨⟨D1, g1, h1', D2, g2', h2', rfl, Oh, Dh, Sh.bel Rf (by omega)⟩⟩)
end Go.Proofs.Ytjjhnjkmoogloaa

/- The document's packet with a datagram. -/
namespace Go.Proofs.Ytjjhnjkmoogloaa
open Go.RowKit
set_option linter.unusedVariables false
set_option linter.unusedSimpArgs false
set_option linter.unusedSimpArgs false
set_option maxHeartbeats 4000000
set_option maxRecDepth 100000

theorem rdbuild_any (p : Pkt) (hp : p.Ok) (X1 : Option Addr) (m1 j1 : Nat) (X2 : Option Addr) (m2 j2 : Nat) (s : Dgm) (hs : s.Ok) (DA : Option Addr) (dn dc : Nat) (w : World) (k1 : Bs w X1 m1 j1 p.opt) (kd : Bs w DA dn dc s.dat) :
    Calls Try.prog 21 #[(.agg #[.int .u8 (p).tos, .int .u16 (p).id, .bool (p).keep, .int .u8 (p).ttl, .int .u8 (p).proto, .int .u32 (p).src, .int .u32 (p).dst, .slice X1 m1 j1, .slice X2 m2 j2]), (.agg #[.int .u16 (s).src, .int .u16 (s).dst, .bool (s).bare, .slice DA dn dc])] w (WiPost w (dbP p s) (dbE p s)) := by
  obtain ⟨⟨a0, a1⟩, ⟨d0, d1⟩⟩ := hs
  have ld := kd.len
  have l1 := k1.len
  have bd := kd.max
  have hsE : dbE p s = wiE p (8 + dn) := by unfold dbE; rw [ld]
  by_cases hbad : 40 < (m1 : Int) ∨ m1 % 4 ≠ 0
  · have HE : Hid (dbE p s = 4) := by unfold Hid; rw [hsE]; exact wiE_4 l1 hbad
    have HP : Hid (dbP p s = zP) := by unfold Hid dbP withP; rw [dS_len, ld, wiE_4 l1 hbad]; rfl
    have hw0 : ∀ W, Bs W X1 m1 j1 p.opt → Calls Try.prog 55 #[(.agg #[.int .u8 (p).tos, .int .u16 (p).id, .bool (p).keep, .int .u8 (p).ttl, .int .u8 (p).proto, .int .u32 (p).src, .int .u32 (p).dst, .slice X1 m1 j1, .slice X2 m2 j2]), .int .u8 17, .slice none 0 0] W (fun e w' => ∃ C1 e1 f1 C2 e2 f2, e = .returned (.tuple #[.agg #[.int .u8 0, .int .u16 0, .bool false, .int .u8 0, .int .u8 0, .int .u32 0, .int .u32 0, .slice C1 e1 f1, .slice C2 e2 f2], .int .i64 4]) ∧ Own w' W.heap.size 5 C1 e1 f1 [] ∧ Own w' W.heap.size 5 C2 e2 f2 [] ∧ Below W.heap.size W w') := fun W kk => by
      have hh := rwith_any p X1 m1 j1 X2 m2 j2 17 none 0 0 [] W kk (Bs.none_ W)
      unfold withP at hh
      rw [wiE_4 l1 hbad, if_neg (by decide)] at hh
      exact hh.mono fun e w' hq => hq.out
    clear hbad hsE l1 hp ld
    obtain ⟨k, hk⟩ : ∃ k : Nat, w.heap.size = k := ⟨_, rfl⟩
    obtain ⟨w1, hw1⟩ : ∃ W, (((w.alloc (.cells #[.int .u8 (p).tos, .int .u16 (p).id, .bool (p).keep, .int .u8 (p).ttl, .int .u8 (p).proto, .int .u32 (p).src, .int .u32 (p).dst, .slice X1 m1 j1, .slice X2 m2 j2] 26)).alloc (.cells #[.int .u16 (s).src, .int .u16 (s).dst, .bool (s).bare, .slice DA dn dc] 37)).alloc (.cells #[.int .u8 0, .int .u16 0, .bool false, .int .u8 0, .int .u8 0, .int .u32 0, .int .u32 0, .slice none 0 0, .slice none 0 0] 26)) = W := ⟨_, rfl⟩
    have P1 : Blk w1 k #[.int .u8 (p).tos, .int .u16 (p).id, .bool (p).keep, .int .u8 (p).ttl, .int .u8 (p).proto, .int .u32 (p).src, .int .u32 (p).dst, .slice X1 m1 j1, .slice X2 m2 j2] 26 := by rw [← hw1]; exact (((blk_new _ _ _ k (by simp [hk])).alloc _).alloc _)
    have S1 : Blk w1 (k + 1) #[.int .u16 (s).src, .int .u16 (s).dst, .bool (s).bare, .slice DA dn dc] 37 := by rw [← hw1]; exact ((blk_new _ _ _ (k + 1) (by simp [hk])).alloc _)
    have Z1 : Blk w1 (k + 1 + 1) #[.int .u8 0, .int .u16 0, .bool false, .int .u8 0, .int .u8 0, .int .u32 0, .int .u32 0, .slice none 0 0, .slice none 0 0] 26 := by rw [← hw1]; exact (blk_new _ _ _ (k + 1 + 1) (by simp [hk]))
    have R1 : Below w.heap.size w w1 := by rw [← hw1]; (repeat (first | with_reducible exact Below.refl _ _ | with_reducible refine below_drew ?_ | with_reducible refine below_drewN ?_ _ | with_reducible refine below_alloc ?_ (Nat.le_refl _) _ | with_reducible refine Below.setCell ?_ (by first | exact Nat.le_refl _ | (simp only []; omega)) _ | with_reducible assumption))
    have Pc1 := P1.cell
    have Sc1 := S1.cell
    have Zc1 := Z1.cell
    have Pl1 := P1.lt
    have Sl1 := S1.lt
    have Zl1 := Z1.lt
    have xx1 := (k1).below R1
    have yy1 := (kd).below R1
    go_enter Try.func21, Try.ntmps21
    go_wp2_with (go_at_call 55; ((with_reducible refine (hw0 w1 xx1).mono ?_); rintro e w2 ⟨C1, e1, f1, C2, e2, f2, rfl, O1, O2, hB2⟩); (obtain ⟨w3, hw3⟩ : ∃ W, w2.alloc (.cells #[.int .u8 0, .int .u16 0, .bool false, .int .u8 0, .int .u8 0, .int .u32 0, .int .u32 0, .slice C1 e1 f1, .slice C2 e2 f2] 26) = W := ⟨_, rfl⟩); have V3 : Below w2.heap.size w2 w3 := (by rw [← hw3]; (repeat (first | with_reducible exact Below.refl _ _ | with_reducible refine below_drew ?_ | with_reducible refine below_drewN ?_ _ | with_reducible refine below_alloc ?_ (Nat.le_refl _) _ | with_reducible refine Below.setCell ?_ (by first | exact Nat.le_refl _ | (simp only []; omega)) _ | with_reducible assumption))); have T3 := below_then hB2 V3; have Q3 : Blk w3 w2.heap.size #[.int .u8 0, .int .u16 0, .bool false, .int .u8 0, .int .u8 0, .int .u32 0, .int .u32 0, .slice C1 e1 f1, .slice C2 e2 f2] 26 := (by rw [← hw3]; exact blk_new w2 _ _ _ rfl); have qc3 := Q3.cell; have P3 := P1.below T3; have pc3 := P3.cell; have Z3 := Z1.below T3; have zc3 := Z3.cell; have S3 := S1.below T3; have sc3 := S3.cell; have R3 := below_then R1 T3)
    obtain ⟨wf, hwf, Sf⟩ := store9 Z3 (.int .u8 0) (.int .u16 0) (.bool false) (.int .u8 0) (.int .u8 0) (.int .u32 0) (.int .u32 0) (.slice none 0 0) (.slice none 0 0)
    rw [hwf]
    have pf := Sf.blk.cell
    exact bodyPost_ret (v := .tuple #[.agg #[.int .u8 0, .int .u16 0, .bool false, .int .u8 0, .int .u8 0, .int .u32 0, .int .u32 0, .slice none 0 0, .slice none 0 0], .int .i64 4]) (by simp [results, Try.results21, go_sem, pf]) rfl (by rw [HE.out, HP.out]; exact wiPost_no (Sf.bel R3 (by omega)))

  have h1 : (m1 : Int) ≤ 40 := by omega
  have h2 : m1 % 4 = 0 := by omega
  have hw0 : ∀ W, Bs W X1 m1 j1 p.opt → Calls Try.prog 55 #[(.agg #[.int .u8 (p).tos, .int .u16 (p).id, .bool (p).keep, .int .u8 (p).ttl, .int .u8 (p).proto, .int .u32 (p).src, .int .u32 (p).dst, .slice X1 m1 j1, .slice X2 m2 j2]), .int .u8 17, .slice none 0 0] W (fun e w' => ∃ C1 e1 f1 C2 e2 f2, e = .returned (.tuple #[.agg #[.int .u8 p.tos, .int .u16 p.id, .bool p.keep, .int .u8 p.ttl, .int .u8 17, .int .u32 p.src, .int .u32 p.dst, .slice C1 e1 f1, .slice C2 e2 f2], .int .i64 0]) ∧ Own w' W.heap.size 5 C1 e1 f1 p.opt ∧ Own w' W.heap.size 5 C2 e2 f2 [] ∧ Below W.heap.size W w') := fun W kk => by
    have hh := rwith_any p X1 m1 j1 X2 m2 j2 17 none 0 0 [] W kk (Bs.none_ W)
    unfold withP at hh
    rw [show ([] : List UInt8).length = 0 from rfl, wiE_0 l1 h1 h2 (by omega), if_pos rfl] at hh
    exact hh.mono fun e w' hq => hq.out
  have ho1 : ∀ w' (W : World) C1 e1 f1, Own w' W.heap.size 5 C1 e1 f1 p.opt → m1 = e1 := fun w' W C1 e1 f1 h => by rw [← h.len]; exact l1.symm
  by_cases h3 : 65535 < 28 + (m1 : Int) + (dn : Int)
  · have HE : Hid (dbE p s = 8) := by unfold Hid; rw [hsE]; exact wiE_8 l1 h1 h2 (by omega)
    have HP : Hid (dbP p s = zP) := by unfold Hid dbP withP; rw [dS_len, ld, wiE_8 l1 h1 h2 (by omega)]; rfl
    clear hbad hsE l1 hp ld
    obtain ⟨k, hk⟩ : ∃ k : Nat, w.heap.size = k := ⟨_, rfl⟩
    obtain ⟨w1, hw1⟩ : ∃ W, (((w.alloc (.cells #[.int .u8 (p).tos, .int .u16 (p).id, .bool (p).keep, .int .u8 (p).ttl, .int .u8 (p).proto, .int .u32 (p).src, .int .u32 (p).dst, .slice X1 m1 j1, .slice X2 m2 j2] 26)).alloc (.cells #[.int .u16 (s).src, .int .u16 (s).dst, .bool (s).bare, .slice DA dn dc] 37)).alloc (.cells #[.int .u8 0, .int .u16 0, .bool false, .int .u8 0, .int .u8 0, .int .u32 0, .int .u32 0, .slice none 0 0, .slice none 0 0] 26)) = W := ⟨_, rfl⟩
    have P1 : Blk w1 k #[.int .u8 (p).tos, .int .u16 (p).id, .bool (p).keep, .int .u8 (p).ttl, .int .u8 (p).proto, .int .u32 (p).src, .int .u32 (p).dst, .slice X1 m1 j1, .slice X2 m2 j2] 26 := by rw [← hw1]; exact (((blk_new _ _ _ k (by simp [hk])).alloc _).alloc _)
    have S1 : Blk w1 (k + 1) #[.int .u16 (s).src, .int .u16 (s).dst, .bool (s).bare, .slice DA dn dc] 37 := by rw [← hw1]; exact ((blk_new _ _ _ (k + 1) (by simp [hk])).alloc _)
    have Z1 : Blk w1 (k + 1 + 1) #[.int .u8 0, .int .u16 0, .bool false, .int .u8 0, .int .u8 0, .int .u32 0, .int .u32 0, .slice none 0 0, .slice none 0 0] 26 := by rw [← hw1]; exact (blk_new _ _ _ (k + 1 + 1) (by simp [hk]))
    have R1 : Below w.heap.size w w1 := by rw [← hw1]; (repeat (first | with_reducible exact Below.refl _ _ | with_reducible refine below_drew ?_ | with_reducible refine below_drewN ?_ _ | with_reducible refine below_alloc ?_ (Nat.le_refl _) _ | with_reducible refine Below.setCell ?_ (by first | exact Nat.le_refl _ | (simp only []; omega)) _ | with_reducible assumption))
    have Pc1 := P1.cell
    have Sc1 := S1.cell
    have Zc1 := Z1.cell
    have Pl1 := P1.lt
    have Sl1 := S1.lt
    have Zl1 := Z1.lt
    have xx1 := (k1).below R1
    have yy1 := (kd).below R1
    go_enter Try.func21, Try.ntmps21
    go_wp2_with (go_at_call 55; ((with_reducible refine (hw0 w1 xx1).mono ?_); rintro e w2 ⟨C1, e1, f1, C2, e2, f2, rfl, O1, O2, hB2⟩); have ue := ho1 _ w1 _ _ _ O1; subst ue; (obtain ⟨w3, hw3⟩ : ∃ W, w2.alloc (.cells #[.int .u8 p.tos, .int .u16 p.id, .bool p.keep, .int .u8 p.ttl, .int .u8 17, .int .u32 p.src, .int .u32 p.dst, .slice C1 m1 f1, .slice C2 e2 f2] 26) = W := ⟨_, rfl⟩); have V3 : Below w2.heap.size w2 w3 := (by rw [← hw3]; (repeat (first | with_reducible exact Below.refl _ _ | with_reducible refine below_drew ?_ | with_reducible refine below_drewN ?_ _ | with_reducible refine below_alloc ?_ (Nat.le_refl _) _ | with_reducible refine Below.setCell ?_ (by first | exact Nat.le_refl _ | (simp only []; omega)) _ | with_reducible assumption))); have T3 := below_then hB2 V3; have Q3 : Blk w3 w2.heap.size #[.int .u8 p.tos, .int .u16 p.id, .bool p.keep, .int .u8 p.ttl, .int .u8 17, .int .u32 p.src, .int .u32 p.dst, .slice C1 m1 f1, .slice C2 e2 f2] 26 := (by rw [← hw3]; exact blk_new w2 _ _ _ rfl); have qc3 := Q3.cell; have P3 := P1.below T3; have pc3 := P3.cell; have Z3 := Z1.below T3; have zc3 := Z3.cell; have S3 := S1.below T3; have sc3 := S3.cell; have R3 := below_then R1 T3)
    obtain ⟨wf, hwf, Sf⟩ := store9 Z3 (.int .u8 0) (.int .u16 0) (.bool false) (.int .u8 0) (.int .u8 0) (.int .u32 0) (.int .u32 0) (.slice none 0 0) (.slice none 0 0)
    rw [hwf]
    have pf := Sf.blk.cell
    exact bodyPost_ret (v := .tuple #[.agg #[.int .u8 0, .int .u16 0, .bool false, .int .u8 0, .int .u8 0, .int .u32 0, .int .u32 0, .slice none 0 0, .slice none 0 0], .int .i64 8]) (by simp [results, Try.results21, go_sem, pf]) rfl (by rw [HE.out, HP.out]; exact wiPost_no (Sf.bel R3 (by omega)))

  have hE0 : wiE p (8 + dn) = 0 := wiE_0 l1 h1 h2 (by omega)
  have HE : Hid (dbE p s = 0) := by unfold Hid; rw [hsE]; exact hE0
  have HP : Hid (dbP p s = { p with proto := 17, dat := dS p s }) := by unfold Hid dbP withP; rw [dS_len, ld, hE0, if_pos rfl]
  obtain ⟨z, hz⟩ : ∃ z : Int, (8 + (dn : Int)) % 65536 = z := ⟨_, rfl⟩
  have z0 : 0 ≤ z := by omega
  have z1 : z ≤ 65535 := by omega
  obtain ⟨y, hy⟩ : ∃ y : Int, 8 + (dn : Int) = y := ⟨_, rfl⟩
  have hw8 : IntKind.i64.wrap (8 + (dn : Int)) = y := by rw [IntKind.wrap_i64]; omega
  have hwy : IntKind.u16.wrap y = z := by rw [IntKind.wrap_u16]; omega
  have HX : Hid ((((([] ++ two s.src) ++ two s.dst) ++ two z) ++ [0, 0]) ++ s.dat = dL s) := by unfold Hid dL; rw [ld, hz]; simp [twos, two]; decide
  have HN : Hid ((dL s).length = 8 + dn) := by unfold Hid; rw [dL_len, ld]
  have HY := Lib.hid hy
  have h3' : 28 + (m1 : Int) + (dn : Int) ≤ 65535 := by omega
  obtain ⟨zz, hzz⟩ : ∃ z, psum p 17 (dL s) = z := ⟨_, rfl⟩
  have zz0 : 0 ≤ zz := by rw [← hzz]; exact csum_lo _
  have zz1 : zz ≤ 65535 := by rw [← hzz]; exact csum_hi _
  have hsum : ∀ W A n c, n ≤ 65535 → Bs W A n c (dL s) → Calls Try.prog 41 #[(.agg #[.int .u8 (p).tos, .int .u16 (p).id, .bool (p).keep, .int .u8 (p).ttl, .int .u8 (p).proto, .int .u32 (p).src, .int .u32 (p).dst, .slice X1 m1 j1, .slice X2 m2 j2]), .int .u8 17, .slice A n c] W fun e w' => e = .returned (.int .u16 zz) ∧ Below W.heap.size W w' := fun W A n c hn bo => by
    have := rssum_any p hp X1 m1 j1 X2 m2 j2 17 (by omega) (by omega) A n c (dL s) W bo (by omega)
    rw [← hzz]
    exact this
  have hw1' : ∀ W A n c, Bs W X1 m1 j1 p.opt → Bs W A n c (dS p s) → Calls Try.prog 55 #[(.agg #[.int .u8 (p).tos, .int .u16 (p).id, .bool (p).keep, .int .u8 (p).ttl, .int .u8 (p).proto, .int .u32 (p).src, .int .u32 (p).dst, .slice X1 m1 j1, .slice X2 m2 j2]), .int .u8 17, .slice A n c] W (fun e w' => ∃ C1 e1 f1 C2 e2 f2, e = .returned (.tuple #[.agg #[.int .u8 p.tos, .int .u16 p.id, .bool p.keep, .int .u8 p.ttl, .int .u8 17, .int .u32 p.src, .int .u32 p.dst, .slice C1 e1 f1, .slice C2 e2 f2], .int .i64 0]) ∧ Own w' W.heap.size 5 C1 e1 f1 p.opt ∧ Own w' W.heap.size 5 C2 e2 f2 (dS p s) ∧ Below W.heap.size W w') := fun W A n c kk ks => by
    have hh := rwith_any p X1 m1 j1 X2 m2 j2 17 A n c (dS p s) W kk ks
    unfold withP at hh
    rw [dS_len, ld, hE0, if_pos rfl] at hh
    exact hh.mono fun e w' hq => hq.out
  clear hbad hsE hp hE0 hz hy h3 l1 ld
  obtain ⟨k, hk⟩ : ∃ k : Nat, w.heap.size = k := ⟨_, rfl⟩
  obtain ⟨w1, hw1⟩ : ∃ W, (((w.alloc (.cells #[.int .u8 (p).tos, .int .u16 (p).id, .bool (p).keep, .int .u8 (p).ttl, .int .u8 (p).proto, .int .u32 (p).src, .int .u32 (p).dst, .slice X1 m1 j1, .slice X2 m2 j2] 26)).alloc (.cells #[.int .u16 (s).src, .int .u16 (s).dst, .bool (s).bare, .slice DA dn dc] 37)).alloc (.cells #[.int .u8 0, .int .u16 0, .bool false, .int .u8 0, .int .u8 0, .int .u32 0, .int .u32 0, .slice none 0 0, .slice none 0 0] 26)) = W := ⟨_, rfl⟩
  have P1 : Blk w1 k #[.int .u8 (p).tos, .int .u16 (p).id, .bool (p).keep, .int .u8 (p).ttl, .int .u8 (p).proto, .int .u32 (p).src, .int .u32 (p).dst, .slice X1 m1 j1, .slice X2 m2 j2] 26 := by rw [← hw1]; exact (((blk_new _ _ _ k (by simp [hk])).alloc _).alloc _)
  have S1 : Blk w1 (k + 1) #[.int .u16 (s).src, .int .u16 (s).dst, .bool (s).bare, .slice DA dn dc] 37 := by rw [← hw1]; exact ((blk_new _ _ _ (k + 1) (by simp [hk])).alloc _)
  have Z1 : Blk w1 (k + 1 + 1) #[.int .u8 0, .int .u16 0, .bool false, .int .u8 0, .int .u8 0, .int .u32 0, .int .u32 0, .slice none 0 0, .slice none 0 0] 26 := by rw [← hw1]; exact (blk_new _ _ _ (k + 1 + 1) (by simp [hk]))
  have R1 : Below w.heap.size w w1 := by rw [← hw1]; (repeat (first | with_reducible exact Below.refl _ _ | with_reducible refine below_drew ?_ | with_reducible refine below_drewN ?_ _ | with_reducible refine below_alloc ?_ (Nat.le_refl _) _ | with_reducible refine Below.setCell ?_ (by first | exact Nat.le_refl _ | (simp only []; omega)) _ | with_reducible assumption))
  have Pc1 := P1.cell
  have Sc1 := S1.cell
  have Zc1 := Z1.cell
  have Pl1 := P1.lt
  have Sl1 := S1.lt
  have Zl1 := Z1.lt
  have xx1 := (k1).below R1
  have yy1 := (kd).below R1
  go_enter Try.func21, Try.ntmps21
  go_wp2_with (go_at_call 55; ((with_reducible refine (hw0 w1 xx1).mono ?_); rintro e w2 ⟨C1, e1, f1, C2, e2, f2, rfl, O1, O2, hB2⟩); have ue := ho1 _ w1 _ _ _ O1; subst ue; (obtain ⟨w3, hw3⟩ : ∃ W, w2.alloc (.cells #[.int .u8 p.tos, .int .u16 p.id, .bool p.keep, .int .u8 p.ttl, .int .u8 17, .int .u32 p.src, .int .u32 p.dst, .slice C1 m1 f1, .slice C2 e2 f2] 26) = W := ⟨_, rfl⟩); have V3 : Below w2.heap.size w2 w3 := (by rw [← hw3]; (repeat (first | with_reducible exact Below.refl _ _ | with_reducible refine below_drew ?_ | with_reducible refine below_drewN ?_ _ | with_reducible refine below_alloc ?_ (Nat.le_refl _) _ | with_reducible refine Below.setCell ?_ (by first | exact Nat.le_refl _ | (simp only []; omega)) _ | with_reducible assumption))); have T3 := below_then hB2 V3; have Q3 : Blk w3 w2.heap.size #[.int .u8 p.tos, .int .u16 p.id, .bool p.keep, .int .u8 p.ttl, .int .u8 17, .int .u32 p.src, .int .u32 p.dst, .slice C1 m1 f1, .slice C2 e2 f2] 26 := (by rw [← hw3]; exact blk_new w2 _ _ _ rfl); have qc3 := Q3.cell; have P3 := P1.below T3; have pc3 := P3.cell; have Z3 := Z1.below T3; have zc3 := Z3.cell; have S3 := S1.below T3; have sc3 := S3.cell; have R3 := below_then R1 T3)
  have xx3 := xx1.below T3
  have yy3 := yy1.below T3
  have hk1 : w.heap.size ≤ k := Nat.le_of_eq hk
  have r3s := R3.size
  clear hw3 hw1 hk hw0
  refine region_txt 8 (by kernel_rfl) (by kernel_rfl) ?_; (iterate 8 (first | (apply ObsK.skip (by rfl)) | (apply ObsK.v (by rfl); (intro wo hT; (repeat (first | (intro v hv; (fail)) | (intro _ _ k; try have hcv := cv k))); (have sc := (S3.below hT).cell; have hsz : w3.heap.size ≤ wo.heap.size := hT.size); refine Goes.mk ?_; first | (exact goes_app _ _ rfl rfl (own_nil _ w3.heap.size _) rfl (by assumption) (by omega) hsz) | (go_simp; first | exact goes_v | exact goes_b (by assumption) | fail | (refine goes_enter ?_; first | (go_at_call 53; ((with_reducible refine (two_any s.src a0 a1 wo).mono ?_); rintro e w9 ⟨A9, c9, rfl, ho9, hB9⟩); exact ret_b ho9.bs hB9) | (go_at_call 53; ((with_reducible refine (two_any s.dst d0 d1 wo).mono ?_); rintro e w9 ⟨A9, c9, rfl, ho9, hB9⟩); exact ret_b ho9.bs hB9))))) | (apply ObsK.b (by rfl); (intro wo hT; (repeat (first | (intro v hv; (fail)) | (intro _ _ k; try have hcv := cv k))); (have sc := (S3.below hT).cell; have hsz : w3.heap.size ≤ wo.heap.size := hT.size); refine Goes.mk ?_; first | (exact goes_app _ _ rfl rfl (own_nil _ w3.heap.size _) rfl (by assumption) (by omega) hsz) | (go_simp; first | exact goes_v | exact goes_b (by assumption) | fail | (refine goes_enter ?_; first | (go_at_call 53; ((with_reducible refine (two_any s.src a0 a1 wo).mono ?_); rintro e w9 ⟨A9, c9, rfl, ho9, hB9⟩); exact ret_b ho9.bs hB9) | (go_at_call 53; ((with_reducible refine (two_any s.dst d0 d1 wo).mono ?_); rintro e w9 ⟨A9, c9, rfl, ho9, hB9⟩); exact ret_b ho9.bs hB9))))) | (apply ObsK.p (q := isW w3.heap.size ([] ++ two s.src)) (by rfl) st_isW; (intro wo hT; (repeat (first | (intro v hv; (fail)) | (intro _ _ k; try have hcv := cv k))); (have sc := (S3.below hT).cell; have hsz : w3.heap.size ≤ wo.heap.size := hT.size); refine Goes.mk ?_; first | (exact goes_app _ _ rfl rfl (own_nil _ w3.heap.size _) rfl (by assumption) (by omega) hsz) | (go_simp; first | exact goes_v | exact goes_b (by assumption) | fail | (refine goes_enter ?_; first | (go_at_call 53; ((with_reducible refine (two_any s.src a0 a1 wo).mono ?_); rintro e w9 ⟨A9, c9, rfl, ho9, hB9⟩); exact ret_b ho9.bs hB9) | (go_at_call 53; ((with_reducible refine (two_any s.dst d0 d1 wo).mono ?_); rintro e w9 ⟨A9, c9, rfl, ho9, hB9⟩); exact ret_b ho9.bs hB9))))))); refine ObsK.nil ?_; intro wz hBz; simp only [finOn, List.drop_succ_cons, List.drop_zero, List.drop_nil]
  rintro A12 c12 k12 v4 ⟨A10, n10, c10, rfl, O10⟩ A9 c9 k9
  go_simp
  have u10 : n10 = 2 := by rw [← O10.len]; rfl
  subst u10
  clear k9
  have z3l := Z3.lt
  rcases Bool.eq_false_or_eq_true s.bare with hb | hb
  · have HS : Hid (dL s = dS p s) := by unfold Hid dS; rw [hb, if_pos rfl]
    clear hsum hzz
    go_wp2_with (first
    | (at_builtin; refine wpList_append_bs (w0 := w3) _ rfl _ _ _ rfl w3.heap.size 5 Try.underlying24 info_u8 A10 2 c10 _ rfl O10 A12 2 c12 (two s.dst) rfl k12 hBz (by omega) (by first | exact Nat.le_refl _ | exact Below.size hBz | omega | (simp <;> omega)) ?_; intro A14 n14 c14 w14 O14' hB14 _ hz14; have u14 : 4 = n14 := (by rw [← O14'.len]; rfl); subst u14; have S14 := S3.below hB14; have sc14 := S14.cell)
    | (go_at_call 53; ((with_reducible refine (two_any z z0 z1 w14).mono ?_); rintro e w16 ⟨A16, c16, rfl, o16, hB16⟩); have O15' := O14'.below hB16; have T16 := below_then hB14 hB16)
    | (at_builtin; refine wpList_append_bs (w0 := w3) _ rfl _ _ _ rfl w3.heap.size 5 Try.underlying24 info_u8 A14 4 c14 _ rfl O15' A16 2 c16 (two z) rfl o16.bs T16 (by omega) (by first | exact Nat.le_refl _ | exact Below.size T16 | omega | (simp <;> omega)) ?_; intro A17 n17 c17 w17 O17 hB17 _ hz17; have u17 : 6 = n17 := (by rw [← O17.len]; rfl); subst u17)
    | (at_builtin; refine wpList_append_bs (w0 := w3) _ rfl _ _ _ rfl w3.heap.size 5 Try.underlying24 info_u8 A17 6 c17 _ rfl (O17.alloc _) (some ⟨_, 0, none⟩) 2 2 _ rfl (bs00 w17) (hB17.alloc hB17.size _) (by omega) (by first | exact Nat.le_refl _ | exact Below.size (hB17.alloc hB17.size _) | omega | (simp <;> omega)) ?_; intro A18 n18 c18 w18 O18 hB18 _ hz18; have u18 : 8 = n18 := (by rw [← O18.len]; rfl); subst u18; have S18 := S3.below hB18; have sc18 := S18.cell; have d18 := yy3.below hB18)
    | (at_builtin; refine wpList_append_bs (w0 := w3) _ rfl _ _ _ rfl w3.heap.size 5 Try.underlying24 info_u8 A18 8 c18 _ rfl O18 DA dn dc _ rfl d18 hB18 (by omega) (by first | exact Nat.le_refl _ | exact Below.size hB18 | omega | (simp <;> omega)) ?_; intro A22 n22 c22 w22 O22 hB22 _ hz22; rw [HX.out] at O22; have u22 : n22 ≤ 65535 := (by have h1 := O22.len; rw [HN.out] at h1; omega); have P22 := P3.below hB22; have pc22 := P22.cell; have S22 := S3.below hB22; have sc22 := S22.cell; have O22b := O22.bs; have xx22 := xx3.below hB22)
    | (go_at_call 55; ((with_reducible refine (hw1' w22 A22 n22 c22 xx22 (HS.out ▸ O22b)).mono ?_); rintro e w27 ⟨D1, g1', h1', D2, g2', h2', rfl, O13, O14, hB27⟩); have T27 := below_then hB22 hB27; have Z27 := Z3.below T27; have zc27 := Z27.cell))
    obtain ⟨wf, hwf, Sf⟩ := store9 Z27 (.int .u8 p.tos) (.int .u16 p.id) (.bool p.keep) (.int .u8 p.ttl) (.int .u8 17) (.int .u32 p.src) (.int .u32 p.dst) (.slice D1 g1' h1') (.slice D2 g2' h2')
    rw [hwf]
    have pf := Sf.blk.cell
    have t26 := hB22.size
    have Of := Sf.own O13 (fun a e => by have := O13.ge a e; omega)
    have Df := Sf.own O14 (fun a e => by have := O14.ge a e; omega)
    exact bodyPost_ret (v := .tuple #[.agg #[.int .u8 p.tos, .int .u16 p.id, .bool p.keep, .int .u8 p.ttl, .int .u8 17, .int .u32 p.src, .int .u32 p.dst, .slice D1 g1' h1', .slice D2 g2' h2'], .int .i64 0]) (by simp [results, Try.results21, go_sem, pf]) rfl (by rw [HE.out, HP.out]; exact ⟨⟨D1, g1', h1', D2, g2', h2', rfl, Of.mono (by omega), Df.mono (by omega), Sf.bel (below_then R3 T27) (by omega)⟩⟩)
  · have hsum2 := fun W A n c hn bo => (hsum W A n c hn bo)
    by_cases hz0 : zz = 0
    · subst hz0
      have HS : Hid (put16 (dL s) 6 65535 = dS p s) := by unfold Hid dS dZ; rw [hb, hzz]; rfl
      clear hzz
      go_wp2_with (first
      | (at_builtin; refine wpList_append_bs (w0 := w3) _ rfl _ _ _ rfl w3.heap.size 5 Try.underlying24 info_u8 A10 2 c10 _ rfl O10 A12 2 c12 (two s.dst) rfl k12 hBz (by omega) (by first | exact Nat.le_refl _ | exact Below.size hBz | omega | (simp <;> omega)) ?_; intro A14 n14 c14 w14 O14' hB14 _ hz14; have u14 : 4 = n14 := (by rw [← O14'.len]; rfl); subst u14; have S14 := S3.below hB14; have sc14 := S14.cell)
      | (go_at_call 53; ((with_reducible refine (two_any z z0 z1 w14).mono ?_); rintro e w16 ⟨A16, c16, rfl, o16, hB16⟩); have O15' := O14'.below hB16; have T16 := below_then hB14 hB16)
      | (at_builtin; refine wpList_append_bs (w0 := w3) _ rfl _ _ _ rfl w3.heap.size 5 Try.underlying24 info_u8 A14 4 c14 _ rfl O15' A16 2 c16 (two z) rfl o16.bs T16 (by omega) (by first | exact Nat.le_refl _ | exact Below.size T16 | omega | (simp <;> omega)) ?_; intro A17 n17 c17 w17 O17 hB17 _ hz17; have u17 : 6 = n17 := (by rw [← O17.len]; rfl); subst u17)
      | (at_builtin; refine wpList_append_bs (w0 := w3) _ rfl _ _ _ rfl w3.heap.size 5 Try.underlying24 info_u8 A17 6 c17 _ rfl (O17.alloc _) (some ⟨_, 0, none⟩) 2 2 _ rfl (bs00 w17) (hB17.alloc hB17.size _) (by omega) (by first | exact Nat.le_refl _ | exact Below.size (hB17.alloc hB17.size _) | omega | (simp <;> omega)) ?_; intro A18 n18 c18 w18 O18 hB18 _ hz18; have u18 : 8 = n18 := (by rw [← O18.len]; rfl); subst u18; have S18 := S3.below hB18; have sc18 := S18.cell; have d18 := yy3.below hB18)
      | (at_builtin; refine wpList_append_bs (w0 := w3) _ rfl _ _ _ rfl w3.heap.size 5 Try.underlying24 info_u8 A18 8 c18 _ rfl O18 DA dn dc _ rfl d18 hB18 (by omega) (by first | exact Nat.le_refl _ | exact Below.size hB18 | omega | (simp <;> omega)) ?_; intro A22 n22 c22 w22 O22 hB22 _ hz22; rw [HX.out] at O22; have u22 : n22 ≤ 65535 := (by have h1 := O22.len; rw [HN.out] at h1; omega); have P22 := P3.below hB22; have pc22 := P22.cell; have S22 := S3.below hB22; have sc22 := S22.cell; have O22b := O22.bs; have xx22 := xx3.below hB22)
      | (go_at_call 41; ((with_reducible refine (hsum2 w22 A22 n22 c22 u22 O22b).mono ?_); rintro e w25 ⟨rfl, hB25⟩); have T25 := below_then hB22 hB25; have O25 := O22b.below hB25)
      | (go_at_call 56; ((with_reducible refine (rput16_any A22 n22 c22 (dL s) 6 65535 (by omega) (by omega) _ O25).mono ?_); rintro e w26 ⟨A26, c26, rfl, O26, hB26⟩); rw [HS.out] at O26; have O26b := O26.bs; have T26 := below_then T25 hB26; have P26 := P3.below T26; have pc26 := P26.cell; have xx26 := xx3.below T26)
      | (go_at_call 55; ((with_reducible refine (hw1' w26 A26 n22 c26 xx26 O26b).mono ?_); rintro e w27 ⟨D1, g1', h1', D2, g2', h2', rfl, O13, O14, hB27⟩); have T27 := below_then T26 hB27; have Z27 := Z3.below T27; have zc27 := Z27.cell))
      obtain ⟨wf, hwf, Sf⟩ := store9 Z27 (.int .u8 p.tos) (.int .u16 p.id) (.bool p.keep) (.int .u8 p.ttl) (.int .u8 17) (.int .u32 p.src) (.int .u32 p.dst) (.slice D1 g1' h1') (.slice D2 g2' h2')
      rw [hwf]
      have pf := Sf.blk.cell
      have t26 := T26.size
      have Of := Sf.own O13 (fun a e => by have := O13.ge a e; omega)
      have Df := Sf.own O14 (fun a e => by have := O14.ge a e; omega)
      exact bodyPost_ret (v := .tuple #[.agg #[.int .u8 p.tos, .int .u16 p.id, .bool p.keep, .int .u8 p.ttl, .int .u8 17, .int .u32 p.src, .int .u32 p.dst, .slice D1 g1' h1', .slice D2 g2' h2'], .int .i64 0]) (by simp [results, Try.results21, go_sem, pf]) rfl (by rw [HE.out, HP.out]; exact ⟨⟨D1, g1', h1', D2, g2', h2', rfl, Of.mono (by omega), Df.mono (by omega), Sf.bel (below_then R3 T27) (by omega)⟩⟩)
    · have HS : Hid (put16 (dL s) 6 zz = dS p s) := by unfold Hid dS dZ; rw [hb, hzz, if_neg hz0]; rfl
      have z0b : (zz == 0) = false := by simpa using hz0
      clear hzz
      go_wp2_with (first
      | (at_builtin; refine wpList_append_bs (w0 := w3) _ rfl _ _ _ rfl w3.heap.size 5 Try.underlying24 info_u8 A10 2 c10 _ rfl O10 A12 2 c12 (two s.dst) rfl k12 hBz (by omega) (by first | exact Nat.le_refl _ | exact Below.size hBz | omega | (simp <;> omega)) ?_; intro A14 n14 c14 w14 O14' hB14 _ hz14; have u14 : 4 = n14 := (by rw [← O14'.len]; rfl); subst u14; have S14 := S3.below hB14; have sc14 := S14.cell)
      | (go_at_call 53; ((with_reducible refine (two_any z z0 z1 w14).mono ?_); rintro e w16 ⟨A16, c16, rfl, o16, hB16⟩); have O15' := O14'.below hB16; have T16 := below_then hB14 hB16)
      | (at_builtin; refine wpList_append_bs (w0 := w3) _ rfl _ _ _ rfl w3.heap.size 5 Try.underlying24 info_u8 A14 4 c14 _ rfl O15' A16 2 c16 (two z) rfl o16.bs T16 (by omega) (by first | exact Nat.le_refl _ | exact Below.size T16 | omega | (simp <;> omega)) ?_; intro A17 n17 c17 w17 O17 hB17 _ hz17; have u17 : 6 = n17 := (by rw [← O17.len]; rfl); subst u17)
      | (at_builtin; refine wpList_append_bs (w0 := w3) _ rfl _ _ _ rfl w3.heap.size 5 Try.underlying24 info_u8 A17 6 c17 _ rfl (O17.alloc _) (some ⟨_, 0, none⟩) 2 2 _ rfl (bs00 w17) (hB17.alloc hB17.size _) (by omega) (by first | exact Nat.le_refl _ | exact Below.size (hB17.alloc hB17.size _) | omega | (simp <;> omega)) ?_; intro A18 n18 c18 w18 O18 hB18 _ hz18; have u18 : 8 = n18 := (by rw [← O18.len]; rfl); subst u18; have S18 := S3.below hB18; have sc18 := S18.cell; have d18 := yy3.below hB18)
      | (at_builtin; refine wpList_append_bs (w0 := w3) _ rfl _ _ _ rfl w3.heap.size 5 Try.underlying24 info_u8 A18 8 c18 _ rfl O18 DA dn dc _ rfl d18 hB18 (by omega) (by first | exact Nat.le_refl _ | exact Below.size hB18 | omega | (simp <;> omega)) ?_; intro A22 n22 c22 w22 O22 hB22 _ hz22; rw [HX.out] at O22; have u22 : n22 ≤ 65535 := (by have h1 := O22.len; rw [HN.out] at h1; omega); have P22 := P3.below hB22; have pc22 := P22.cell; have S22 := S3.below hB22; have sc22 := S22.cell; have O22b := O22.bs; have xx22 := xx3.below hB22)
      | (go_at_call 41; ((with_reducible refine (hsum2 w22 A22 n22 c22 u22 O22b).mono ?_); rintro e w25 ⟨rfl, hB25⟩); have T25 := below_then hB22 hB25; have O25 := O22b.below hB25)
      | (go_at_call 56; ((with_reducible refine (rput16_any A22 n22 c22 (dL s) 6 zz zz0 zz1 _ O25).mono ?_); rintro e w26 ⟨A26, c26, rfl, O26, hB26⟩); rw [HS.out] at O26; have O26b := O26.bs; have T26 := below_then T25 hB26; have P26 := P3.below T26; have pc26 := P26.cell; have xx26 := xx3.below T26)
      | (go_at_call 55; ((with_reducible refine (hw1' w26 A26 n22 c26 xx26 O26b).mono ?_); rintro e w27 ⟨D1, g1', h1', D2, g2', h2', rfl, O13, O14, hB27⟩); have T27 := below_then T26 hB27; have Z27 := Z3.below T27; have zc27 := Z27.cell))
      obtain ⟨wf, hwf, Sf⟩ := store9 Z27 (.int .u8 p.tos) (.int .u16 p.id) (.bool p.keep) (.int .u8 p.ttl) (.int .u8 17) (.int .u32 p.src) (.int .u32 p.dst) (.slice D1 g1' h1') (.slice D2 g2' h2')
      rw [hwf]
      have pf := Sf.blk.cell
      have t26 := T26.size
      have Of := Sf.own O13 (fun a e => by have := O13.ge a e; omega)
      have Df := Sf.own O14 (fun a e => by have := O14.ge a e; omega)
      exact bodyPost_ret (v := .tuple #[.agg #[.int .u8 p.tos, .int .u16 p.id, .bool p.keep, .int .u8 p.ttl, .int .u8 17, .int .u32 p.src, .int .u32 p.dst, .slice D1 g1' h1', .slice D2 g2' h2'], .int .i64 0]) (by simp [results, Try.results21, go_sem, pf]) rfl (by rw [HE.out, HP.out]; exact ⟨⟨D1, g1', h1', D2, g2', h2', rfl, Of.mono (by omega), Df.mono (by omega), Sf.bel (below_then R3 T27) (by omega)⟩⟩)
end Go.Proofs.Ytjjhnjkmoogloaa

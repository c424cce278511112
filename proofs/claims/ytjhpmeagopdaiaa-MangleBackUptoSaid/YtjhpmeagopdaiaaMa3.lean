/- Parts of the proofs of this seat, laid together. -/
import Derived.ChangeKeysEq
import Derived.Lib.AppendZerosOnto
import Derived.MapKept
import Derived.Test.YtjhpmeagopdaiaaMa2
namespace Go.Proofs.Ytjhpmeagopdaiaa
open Go.RowKit
set_option linter.unusedVariables false
set_option linter.unusedSimpArgs false
set_option linter.unusedSimpArgs false
set_option maxHeartbeats 4000000
set_option maxRecDepth 100000

def isArr (B m : Nat) (cs : Array Value) (t : TypeId) : World → Value → Prop := fun W v => ∃ g, v = .slice (some ⟨g, 0, none⟩) m m ∧ B ≤ g ∧ Blk W g cs t
theorem st_isArr {B m : Nat} {cs : Array Value} {t : TypeId} : ∀ w w' v, isArr B m cs t w v → Below w.heap.size w w' → isArr B m cs t w' v := fun _ _ _ ⟨g, e, h, k⟩ hb => ⟨g, e, h, k.below hb⟩
theorem goes_arr {B m : Nat} {W : World} {cs : Array Value} {t : TypeId} (h : B ≤ W.heap.size) : OpGoes Try.prog (fun v w' => (Kd.p (isArr B m cs t)).holds w' v ∧ Below W.heap.size W w') (.ok (.value (.slice (some ⟨W.heap.size, 0, none⟩) m m)) (W.alloc (.cells cs t))) :=
  ⟨⟨_, rfl, h, blk_new W cs t _ rfl⟩, (Below.refl _ W).alloc (Nat.le_refl _) _⟩
def hdSg (s : Seg) : List UInt8 := (([] ++ twos [s.src, s.dst]) ++ fours [s.seq, s.ack]) ++ twos [s.flags, s.win, 0, s.urg]
theorem hdSg_len (s : Seg) : (hdSg s).length = 20 := by simp [hdSg, twos, fours, two, four]
theorem sL_of (s : Seg) (x : Int) (hx : ((20 + (optL s.opts).length : Nat) : Int) / 4 * 16 = x) : (hdSg s ++ optL s.opts).set 12 (ub x) ++ s.dat = sL s := by
  subst hx
  have h : ∀ z, (hdSg s ++ optL s.opts).set 12 z = two s.src ++ two s.dst ++ four s.seq ++ four s.ack ++ [z, ub s.flags] ++ two s.win ++ [0, 0] ++ two s.urg ++ optL s.opts := fun z => by
    simp [hdSg, twos, fours, two, four]
    decide
  rw [h]
  simp [sL]
def sS (p : Pkt) (s : Seg) : List UInt8 := put16 (sL s) 16 (psum p 6 (sL s))
def sbE (p : Pkt) (s : Seg) : Int := if okOs s.opts then wiE p (sN s) else 4
def sbP (p : Pkt) (s : Seg) : Pkt := if sbE p s = 0 then { p with proto := 6, dat := sS p s } else zP
theorem sS_len (p : Pkt) (s : Seg) : (sS p s).length = sN s := by unfold sS; rw [put16_length, sL_len]
theorem goes_cat2 {W : World} {n1 c1 n2 c2 : Nat} {A1 A2 : Option Addr} {l1 l2 : List UInt8} {T : TypeId} (k1 : Bs W A1 n1 c1 l1) (k2 : Bs W A2 n2 c2 l2) (h : n1 + n2 ≤ 200000000000000) :
    OpGoes Try.prog (fun v w' => (Kd.p (isC (l1 ++ l2))).holds w' v ∧ Below W.heap.size W w') (.ok (.value (.slice (some ⟨W.heap.size, 0, none⟩) 2 2)) (W.alloc (.cells #[.slice A1 n1 c1, .slice A2 n2 c2] T))) :=
  ⟨⟨isCat2' (blk_new W _ T _ rfl) (k1.alloc _) (k2.alloc _) h⟩, (Below.refl _ W).alloc (Nat.le_refl _) _⟩
theorem goes_tup {B : Nat} {P : Pkt} {E : Int} {C1 C2 : Option Addr} {e1 f1 e2 f2 : Nat} {w : World} (h1 : Own w B 5 C1 e1 f1 P.opt) (h2 : Own w B 5 C2 e2 f2 P.dat) :
    OpGoes Try.prog (fun v w' => (Kd.p (isTup B P E)).holds w' v ∧ Below w.heap.size w w') (.ok (.value (.tuple #[(.agg #[.int .u8 (P).tos, .int .u16 (P).id, .bool (P).keep, .int .u8 (P).ttl, .int .u8 (P).proto, .int .u32 (P).src, .int .u32 (P).dst, .slice C1 e1 f1, .slice C2 e2 f2]), .int .i64 E])) w) := ⟨⟨_, _, _, _, _, _, rfl, h1, h2⟩, Below.refl _ _⟩
theorem swith_all (p : Pkt) (A1 : Option Addr) (n1 c1 : Nat) (A2 : Option Addr) (n2 c2 : Nat) (pr : Int) (d : List UInt8) (P : Pkt) (E : Int) (hE : wiE p d.length = E) (hP : P = withP p pr d) (base : Nat) (A3 : Option Addr) (n3 c3 : Nat) (w : World) (k1 : Bs w A1 n1 c1 p.opt) (k3 : Own w base 5 A3 n3 c3 d) (hb : base ≤ w.heap.size) :
    Calls Try.prog 84 #[(.agg #[.int .u8 (p).tos, .int .u16 (p).id, .bool (p).keep, .int .u8 (p).ttl, .int .u8 (p).proto, .int .u32 (p).src, .int .u32 (p).dst, .slice A1 n1 c1, .slice A2 n2 c2]), .int .u8 pr, .slice A3 n3 c3] w (fun e w' => ∃ C1 e1 f1 C2 e2 f2, e = .returned (.tuple #[(.agg #[.int .u8 (P).tos, .int .u16 (P).id, .bool (P).keep, .int .u8 (P).ttl, .int .u8 (P).proto, .int .u32 (P).src, .int .u32 (P).dst, .slice C1 e1 f1, .slice C2 e2 f2]), .int .i64 E]) ∧ Own w' base 5 C1 e1 f1 P.opt ∧ Own w' base 5 C2 e2 f2 P.dat ∧ Below w.heap.size w w') := by
  have l3 := k3.len
  by_cases h : E = 0
  · have hp : P = { p with proto := pr, dat := d } := by rw [hP]; unfold withP; rw [hE, if_pos h]
    refine (swith_ok p A1 n1 c1 A2 n2 c2 pr A3 n3 c3 d w k1 k3.bs (by rw [← l3, hE, h])).mono ?_
    rintro e w' ⟨A4, n4, c4, rfl, O4, hB⟩
    rw [hp, h]
    exact ⟨A4, n4, c4, A3, n3, c3, rfl, O4.mono hb, k3.below hB, hB⟩
  · have hp : P = zP := by rw [hP]; unfold withP; rw [hE, if_neg h]
    refine (swith_bad p A1 n1 c1 A2 n2 c2 pr A3 n3 c3 d w k1 k3.bs (by rw [← l3, hE]; exact h)).mono ?_
    rintro e w' ⟨B1, m1, d1, B2, m2, d2, rfl, O1, O2, hB⟩
    rw [hp, ← hE, l3]
    exact ⟨B1, m1, d1, B2, m2, d2, rfl, O1.mono hb, O2.mono hb, hB⟩
theorem sbuild_any (p : Pkt) (hp : p.Ok) (X1 : Option Addr) (m1 j1 : Nat) (X2 : Option Addr) (m2 j2 : Nat) (s : Seg) (hs : s.Ok) (OA : Option Addr) (on oc : Nat) (DA : Option Addr) (dn dc : Nat) (w : World) (k1 : Bs w X1 m1 j1 p.opt) (K : Os w OA on oc s.opts) (kd : Bs w DA dn dc s.dat)
    (hdn : dn ≤ 140737488351232) : Calls Try.prog 45 #[(.agg #[.int .u8 (p).tos, .int .u16 (p).id, .bool (p).keep, .int .u8 (p).ttl, .int .u8 (p).proto, .int .u32 (p).src, .int .u32 (p).dst, .slice X1 m1 j1, .slice X2 m2 j2]), (.agg #[.int .u16 (s).src, .int .u16 (s).dst, .int .u32 (s).seq, .int .u32 (s).ack, .int .u8 (s).flags, .int .u16 (s).win, .int .u16 (s).urg, .slice OA on oc, .slice DA dn dc])] w (WiPost w (sbP p s) (sbE p s)) := by
  obtain ⟨⟨a0, a1⟩, ⟨d0, d1⟩, ⟨q0, q1⟩, ⟨r0, r1⟩, ⟨f0, f1⟩, ⟨v0, v1⟩, ⟨g0, g1⟩, -⟩ := hs
  have hTs : 120 ≠ 5 := by decide
  have hwf : IntKind.u16.wrap s.flags = s.flags := by rw [IntKind.wrap_u16]; omega
  have h77 : 26 ≠ 5 := by decide
  have h78 : 55 ≠ 5 := by decide
  obtain ⟨k, hk⟩ : ∃ k : Nat, w.heap.size = k := ⟨_, rfl⟩
  obtain ⟨w1, hw1⟩ : ∃ W, ((((w.alloc (.cells #[.int .u8 (p).tos, .int .u16 (p).id, .bool (p).keep, .int .u8 (p).ttl, .int .u8 (p).proto, .int .u32 (p).src, .int .u32 (p).dst, .slice X1 m1 j1, .slice X2 m2 j2] 26)).alloc (.cells #[.int .u16 (s).src, .int .u16 (s).dst, .int .u32 (s).seq, .int .u32 (s).ack, .int .u8 (s).flags, .int .u16 (s).win, .int .u16 (s).urg, .slice OA on oc, .slice DA dn dc] 55)).alloc (.cells #[.int .u8 0, .int .u16 0, .bool false, .int .u8 0, .int .u8 0, .int .u32 0, .int .u32 0, .slice none 0 0, .slice none 0 0] 26)).alloc (.cells #[.slice none 0 0, .bool false] 120)) = W := ⟨_, rfl⟩
  have P1 : Blk w1 k #[.int .u8 (p).tos, .int .u16 (p).id, .bool (p).keep, .int .u8 (p).ttl, .int .u8 (p).proto, .int .u32 (p).src, .int .u32 (p).dst, .slice X1 m1 j1, .slice X2 m2 j2] 26 := by rw [← hw1]; exact ((((blk_new _ _ _ k (by simp [hk])).alloc _).alloc _).alloc _)
  have S1 : Blk w1 (k + 1) #[.int .u16 (s).src, .int .u16 (s).dst, .int .u32 (s).seq, .int .u32 (s).ack, .int .u8 (s).flags, .int .u16 (s).win, .int .u16 (s).urg, .slice OA on oc, .slice DA dn dc] 55 := by rw [← hw1]; exact (((blk_new _ _ _ (k + 1) (by simp [hk])).alloc _).alloc _)
  have Z1 : Blk w1 (k + 1 + 1) #[.int .u8 0, .int .u16 0, .bool false, .int .u8 0, .int .u8 0, .int .u32 0, .int .u32 0, .slice none 0 0, .slice none 0 0] 26 := by rw [← hw1]; exact ((blk_new _ _ _ (k + 1 + 1) (by simp [hk])).alloc _)
  have H1 : Blk w1 (k + 1 + 1 + 1) #[.slice none 0 0, .bool false] 120 := by rw [← hw1]; exact (blk_new _ _ _ (k + 1 + 1 + 1) (by simp [hk]))
  have R1 : Below w.heap.size w w1 := by rw [← hw1]; (repeat (first | with_reducible exact Below.refl _ _ | with_reducible refine below_drew ?_ | with_reducible refine below_drewN ?_ _ | with_reducible refine below_alloc ?_ (Nat.le_refl _) _ | with_reducible refine Below.setCell ?_ (by first | exact Nat.le_refl _ | (simp only []; omega)) _ | with_reducible assumption))
  have Pc1 := P1.cell
  have Sc1 := S1.cell
  have Zc1 := Z1.cell
  have Hc1 := H1.cell
  have Pl1 := P1.lt
  have Sl1 := S1.lt
  have Zl1 := Z1.lt
  have Hl1 := H1.lt
  go_enter Try.func45, Try.ntmps45
  go_wp2_with fail
  have hk1 : w.heap.size ≤ k := Nat.le_of_eq hk
  have hk2 : k ≤ w.heap.size := Nat.le_of_eq hk.symm
  clear hk hw1
  have sc1 := S1.cell
  have hc1 := H1.cell
  have hl1 := H1.lt
  have sl1 := S1.lt
  refine region_txt 8 (by kernel_rfl) (by kernel_rfl) ?_; (iterate 8 (first | (apply ObsK.skip (by rfl)) | (apply ObsK.v (by rfl); (intro wo hT; (repeat (first | (intro v hv; (fail)) | (intro _ _ k; try have hcv := cv k))); (have sc := (S1.below hT).cell; have hc := (H1.below hT).cell; have hsz : w1.heap.size ≤ wo.heap.size := hT.size); refine Goes.mk ?_; go_simp; first | exact goes_v | exact goes_b (by assumption) | exact goes_arr hsz | (refine goes_enter ?_; first | fail))) | (apply ObsK.b (by rfl); (intro wo hT; (repeat (first | (intro v hv; (fail)) | (intro _ _ k; try have hcv := cv k))); (have sc := (S1.below hT).cell; have hc := (H1.below hT).cell; have hsz : w1.heap.size ≤ wo.heap.size := hT.size); refine Goes.mk ?_; go_simp; first | exact goes_v | exact goes_b (by assumption) | exact goes_arr hsz | (refine goes_enter ?_; first | fail))) | (apply ObsK.p (q := isArr w1.heap.size 2 (u16s [s.src, s.dst]) 22) (by rfl) st_isArr; (intro wo hT; (repeat (first | (intro v hv; (fail)) | (intro _ _ k; try have hcv := cv k))); (have sc := (S1.below hT).cell; have hc := (H1.below hT).cell; have hsz : w1.heap.size ≤ wo.heap.size := hT.size); refine Goes.mk ?_; go_simp; first | exact goes_v | exact goes_b (by assumption) | exact goes_arr hsz | (refine goes_enter ?_; first | fail))))); refine ObsK.nil ?_; intro wz hBz; simp only [finOn, List.drop_succ_cons, List.drop_zero, List.drop_nil]
  rintro v2 ⟨g2, rfl, hg2, G2⟩
  go_simp
  have H1z := H1.below hBz
  have P1z := P1.below hBz
  have S1z := S1.below hBz
  have Z1z := Z1.below hBz
  have zs1 := hBz.size
  have rs1 := R1.size
  have h2 := htwo_any w.heap.size w.heap.size (k + 1 + 1 + 1) _ 120 none 0 0 [] g2 2 2 [s.src, s.dst] rfl (by omega) wz H1z rfl (own_nil _ _ _) (by omega) G2 (by intro x hx; simp at hx; omega) hTs (by omega) (by omega) (Nat.le_refl _) (by omega) (by omega)
  go_wp2_with (go_at_call 81; ((with_reducible refine (h2).mono ?_); rintro e w2 hpost); (obtain ⟨rfl, A2, n2, c2, H2, O2, B2, K2⟩ := hpost.out); simp only [List.setIfInBounds_toArray, List.set_cons_zero] at H2)
  have u2 : n2 = 4 := by rw [← O2.len]; simp [twos, fours, two, four]
  subst u2
  have R2 := (R1.trans (hBz.mono (by omega))).trans B2
  have P2 := K2 k _ _ h77 (by omega) P1z
  have S2 := K2 (k + 1) _ _ h78 (by omega) S1z
  have Z2 := K2 (k + 1 + 1) _ _ h77 (by omega) Z1z
  clear P1z S1z Z1z H1z hpost h2 G2 hg2 zs1 rs1 sc1 hc1 hl1 sl1 B2 K2 hBz
  have sc2 := S2.cell
  have hc2 := H2.cell
  have hl2 := H2.lt
  have sl2 := S2.lt
  refine region_txt 8 (by kernel_rfl) (by kernel_rfl) ?_; (iterate 8 (first | (apply ObsK.skip (by rfl)) | (apply ObsK.v (by rfl); (intro wo hT; (repeat (first | (intro v hv; (fail)) | (intro _ _ k; try have hcv := cv k))); (have sc := (S2.below hT).cell; have hc := (H2.below hT).cell; have hsz : w2.heap.size ≤ wo.heap.size := hT.size); refine Goes.mk ?_; go_simp; first | exact goes_v | exact goes_b (by assumption) | exact goes_arr hsz | (refine goes_enter ?_; first | fail))) | (apply ObsK.b (by rfl); (intro wo hT; (repeat (first | (intro v hv; (fail)) | (intro _ _ k; try have hcv := cv k))); (have sc := (S2.below hT).cell; have hc := (H2.below hT).cell; have hsz : w2.heap.size ≤ wo.heap.size := hT.size); refine Goes.mk ?_; go_simp; first | exact goes_v | exact goes_b (by assumption) | exact goes_arr hsz | (refine goes_enter ?_; first | fail))) | (apply ObsK.p (q := isArr w2.heap.size 2 (u32s [s.seq, s.ack]) 23) (by rfl) st_isArr; (intro wo hT; (repeat (first | (intro v hv; (fail)) | (intro _ _ k; try have hcv := cv k))); (have sc := (S2.below hT).cell; have hc := (H2.below hT).cell; have hsz : w2.heap.size ≤ wo.heap.size := hT.size); refine Goes.mk ?_; go_simp; first | exact goes_v | exact goes_b (by assumption) | exact goes_arr hsz | (refine goes_enter ?_; first | fail))))); refine ObsK.nil ?_; intro wz hBz; simp only [finOn, List.drop_succ_cons, List.drop_zero, List.drop_nil]
  rintro v3 ⟨g3, rfl, hg3, G3⟩
  go_simp
  have H2z := H2.below hBz
  have P2z := P2.below hBz
  have S2z := S2.below hBz
  have Z2z := Z2.below hBz
  have zs2 := hBz.size
  have rs2 := R2.size
  have h3 := hfour_any w.heap.size w.heap.size (k + 1 + 1 + 1) _ 120 A2 4 c2 _ g3 2 2 [s.seq, s.ack] rfl (by omega) wz H2z rfl (O2.below hBz) (by omega) G3 (by intro x hx; simp at hx; omega) hTs (by omega) (by omega) (Nat.le_refl _) (by omega) (by omega)
  go_wp2_with (go_at_call 82; ((with_reducible refine (h3).mono ?_); rintro e w3 hpost); (obtain ⟨rfl, A3, n3, c3, H3, O3, B3, K3⟩ := hpost.out); simp only [List.setIfInBounds_toArray, List.set_cons_zero] at H3)
  have u3 : n3 = 12 := by rw [← O3.len]; simp [twos, fours, two, four]
  subst u3
  have R3 := (R2.trans (hBz.mono (by omega))).trans B3
  have P3 := K3 k _ _ h77 (by omega) P2z
  have S3 := K3 (k + 1) _ _ h78 (by omega) S2z
  have Z3 := K3 (k + 1 + 1) _ _ h77 (by omega) Z2z
  clear P2z S2z Z2z H2z hpost h3 G3 hg3 zs2 rs2 sc2 hc2 hl2 sl2 B3 K3 hBz
  have sc3 := S3.cell
  have hc3 := H3.cell
  have hl3 := H3.lt
  have sl3 := S3.lt
  refine region_txt 11 (by kernel_rfl) (by kernel_rfl) ?_; (iterate 11 (first | (apply ObsK.skip (by rfl)) | (apply ObsK.v (by rfl); (intro wo hT; (repeat (first | (intro v hv; (fail)) | (intro _ _ k; try have hcv := cv k))); (have sc := (S3.below hT).cell; have hc := (H3.below hT).cell; have hsz : w3.heap.size ≤ wo.heap.size := hT.size); refine Goes.mk ?_; go_simp; first | exact goes_v | exact goes_b (by assumption) | exact goes_arr hsz | (refine goes_enter ?_; first | fail))) | (apply ObsK.b (by rfl); (intro wo hT; (repeat (first | (intro v hv; (fail)) | (intro _ _ k; try have hcv := cv k))); (have sc := (S3.below hT).cell; have hc := (H3.below hT).cell; have hsz : w3.heap.size ≤ wo.heap.size := hT.size); refine Goes.mk ?_; go_simp; first | exact goes_v | exact goes_b (by assumption) | exact goes_arr hsz | (refine goes_enter ?_; first | fail))) | (apply ObsK.p (q := isArr w3.heap.size 4 (u16s [s.flags, s.win, 0, s.urg]) 22) (by rfl) st_isArr; (intro wo hT; (repeat (first | (intro v hv; (fail)) | (intro _ _ k; try have hcv := cv k))); (have sc := (S3.below hT).cell; have hc := (H3.below hT).cell; have hsz : w3.heap.size ≤ wo.heap.size := hT.size); refine Goes.mk ?_; go_simp; first | exact goes_v | exact goes_b (by assumption) | exact goes_arr hsz | (refine goes_enter ?_; first | fail))))); refine ObsK.nil ?_; intro wz hBz; simp only [finOn, List.drop_succ_cons, List.drop_zero, List.drop_nil]
  rintro v4 ⟨g4, rfl, hg4, G4⟩
  go_simp
  have H3z := H3.below hBz
  have P3z := P3.below hBz
  have S3z := S3.below hBz
  have Z3z := Z3.below hBz
  have zs3 := hBz.size
  have rs3 := R3.size
  have h4 := htwo_any w.heap.size w.heap.size (k + 1 + 1 + 1) _ 120 A3 12 c3 _ g4 4 4 [s.flags, s.win, 0, s.urg] rfl (by omega) wz H3z rfl (O3.below hBz) (by omega) G4 (by intro x hx; simp at hx; omega) hTs (by omega) (by omega) (Nat.le_refl _) (by omega) (by omega)
  rcases Bool.eq_false_or_eq_true (okOs s.opts) with hok | hok
  · go_wp2_with (first
      | (go_at_call 81; ((with_reducible refine (h4).mono ?_); rintro e w4 hpost); (obtain ⟨rfl, A4, n4, c4, H4, O4, B4, K4⟩ := hpost.out); simp only [List.setIfInBounds_toArray, List.set_cons_zero] at H4; have u4 : 20 = n4 := (by rw [← O4.len]; simp [twos, fours, two, four]); subst u4; have R4 := (R3.trans (hBz.mono (by omega))).trans B4; have P4 := K4 k _ _ h77 (by omega) P3z; have S4 := K4 (k + 1) _ _ h78 (by omega) S3z; have Z4 := K4 (k + 1 + 1) _ _ h77 (by omega) Z3z; have O4' : Own w4 w.heap.size 5 A4 20 c4 (hdSg s) := O4; have s4 := S4.cell; have hl4 := H4.lt; have rs4 := R4.size; have ho := hopts_any w.heap.size w.heap.size (k + 1 + 1 + 1) 120 A4 c4 (hdSg s) w w4 OA on oc s.opts K R4 (Nat.le_refl _) H4 O4' hTs (by omega) (Nat.le_refl _) rs4 rs4)
      | (go_at_call 83; ((with_reducible refine (ho).mono ?_); rintro e w5 hpost5); (obtain ⟨rfl, A5, n5, c5, H5, O5, B5, K5⟩ := hpost5.out); have P5 := K5 k _ _ h77 (by omega) P4; have S5 := K5 (k + 1) _ _ h78 (by omega) S4; have Z5 := K5 (k + 1 + 1) _ _ h77 (by omega) Z4; have R5 := R4.trans B5; rw [hok] at H5; have hc5 := H5.cell; have zc5 := Z5.cell))
    replace O5 := O5 hok
    have hl5 := O5.len
    rw [List.length_append, hdSg_len] at hl5
    have hl6 := okOs_len hok
    have hl7 := (optL_len s.opts).2
    obtain ⟨g5, rfl, gb5, gl5⟩ := O5.ptr (by omega)
    have hx := sL_of s (((20 + (optL s.opts).length : Nat) : Int) / 4 * 16) rfl
    obtain ⟨x, hxe⟩ : ∃ x, ((20 + (optL s.opts).length : Nat) : Int) / 4 * 16 = x := ⟨_, rfl⟩
    rw [hxe] at hx
    have HX := Lib.hid hx
    clear hx
    have x0 : 0 ≤ x := by omega
    have x1 : x ≤ 255 := by omega
    have n60 : n5 ≤ 60 := by omega
    have n20 : 20 ≤ n5 := by omega
    have hx5 : (n5 : Int) / 4 * 16 = x := by omega
    clear hxe hl5 hl6 hl7
    obtain ⟨cc5, cf5⟩ := O5.at_ (i := 12) (by omega)
    have h5l := H5.lt
    refine region_txt 14 (by kernel_rfl) (by kernel_rfl) ?_; (iterate 14 (first | (apply ObsK.skip (by rfl)) | (apply ObsK.v (by rfl); (intro wo hT; (repeat (first | (intro _ _ k; try have hcv := cv k))); (have hc := (H5.below hT).cell; have oc5 := (O5.below hT).at_ (i := 12) (by omega)); refine Goes.mk ?_; go_simp; first | exact goes_v | exact goes_b (by assumption) | (refine goes_enter ?_; first | fail))) | (apply ObsK.b (by rfl); (intro wo hT; (repeat (first | (intro _ _ k; try have hcv := cv k))); (have hc := (H5.below hT).cell; have oc5 := (O5.below hT).at_ (i := 12) (by omega)); refine Goes.mk ?_; go_simp; first | exact goes_v | exact goes_b (by assumption) | (refine goes_enter ?_; first | fail))))); refine ObsK.nil ?_; intro wz hBz; simp only [finOn, List.drop_succ_cons, List.drop_zero, List.drop_nil]
    go_simp
    have hq1 : IntKind.i64.wrap ((n5 : Int) / 4) = (n5 : Int) / 4 := by rw [IntKind.wrap_i64]; omega
    have hq2 : IntKind.i64.wrap ((n5 : Int) / 4 * 16) = x := by rw [IntKind.wrap_i64]; omega
    have hq3 : IntKind.u8.wrap x = x := by rw [IntKind.wrap_u8]; omega
    have oc6 := (O5.below hBz).at_ (i := 12) (by omega)
    have n12 : (12 : Int) < n5 := by omega
    go_wp2_with fail
    obtain ⟨E, hE⟩ : ∃ E, wiE p (sN s) = E := ⟨_, rfl⟩
    obtain ⟨P, hP⟩ : ∃ P, P = withP p 6 (sL s) := ⟨_, rfl⟩
    have hw2 := fun W A n c k1 k3 hb => swith_all p X1 m1 j1 X2 m2 j2 6 (sL s) P E (by rw [sL_len]; exact hE) hP w.heap.size A n c W k1 k3 hb
    have HE := Lib.hid hE
    have HP := Lib.hid hP
    clear hE hP
    obtain ⟨w6, hw6⟩ : ∃ w6, wz.setCell ⟨g5, 12, none⟩ (.int .u8 x) = w6 := ⟨_, rfl⟩
    have gne := O5.ne_blk H5 hTs g5 rfl
    have H6 := (H5.below hBz).far ⟨g5, 12, none⟩ gne (.int .u8 x)
    have P6 := (P5.below hBz).far ⟨g5, 12, none⟩ (O5.ne_blk P5 h77 g5 rfl) (.int .u8 x)
    have S6 := (S5.below hBz).far ⟨g5, 12, none⟩ (O5.ne_blk S5 h78 g5 rfl) (.int .u8 x)
    have Z6 := (Z5.below hBz).far ⟨g5, 12, none⟩ (O5.ne_blk Z5 h77 g5 rfl) (.int .u8 x)
    have O6 := (O5.below hBz).set_ (i := 12) (by omega) x (y := x) (by omega)
    have R6 := (R5.trans (hBz.mono R5.size)).setCell (p := ⟨g5, 12, none⟩) gb5 (.int .u8 x)
    rw [hw6] at H6 P6 S6 Z6 O6 R6 ⊢
    have x6 := k1.below R6
    have y6 := kd.below R6
    have r6 := R6.size
    clear hw6 oc6 hq1 hq2 hq3 hx5 cc5 cf5 n12 hc5 zc5
    refine region_z 15 13 (by kernel_rfl) (by kernel_rfl) (fun _ _ _ _ _ h => h) ?_; (iterate 15 (first | (apply ObsK.skip (by rfl)) | (apply ObsK.v (by rfl); (intro wo hT; (repeat (first | (intro v hv; ((first | (have hcat := hv.out) | (obtain ⟨A7, n7, c7, rfl, o7⟩ := hv) | (obtain ⟨D1, g1, h1', D2, g2, h2', rfl, o13, o14⟩ := hv)))) | (intro _ _ k; try have hcv := cv k))); (have pc := (P6.below hT).cell; have sc := (S6.below hT).cell; have hc := (H6.below hT).cell; have xo := x6.below hT; have oo := (O6.below hT).bs; have yo := y6.below hT; have hsz : w6.heap.size ≤ wo.heap.size := hT.size); refine Goes.mk ?_; go_simp; first | exact goes_v | exact goes_b (by assumption) | (first | exact goes_cat2 (by assumption) (by assumption) (by omega) | exact goes_tup (by assumption) (by assumption) | exact goes_pk (by assumption) (by assumption) | exact goes_new hsz) | (refine goes_enter ?_; first | (go_at_call 85; ((with_reducible refine (hcat wo (Below.refl _ _)).mono ?_); rintro e w9 ⟨A9, n9, c9, rfl, ho9, hB9⟩); rw [HX.out] at ho9; exact ret_p (own_isW ho9 (by omega)) hB9) | (go_at_call 84; ((with_reducible refine (hw2 wo A7 n7 c7 xo o7 (by omega)).mono ?_); rintro e w9 ⟨D1, g1, h1', D2, g2, h2', rfl, o13, o14, hB9⟩); exact ret_tup (P := P) o13 o14 hB9)))) | (apply ObsK.b (by rfl); (intro wo hT; (repeat (first | (intro v hv; ((first | (have hcat := hv.out) | (obtain ⟨A7, n7, c7, rfl, o7⟩ := hv) | (obtain ⟨D1, g1, h1', D2, g2, h2', rfl, o13, o14⟩ := hv)))) | (intro _ _ k; try have hcv := cv k))); (have pc := (P6.below hT).cell; have sc := (S6.below hT).cell; have hc := (H6.below hT).cell; have xo := x6.below hT; have oo := (O6.below hT).bs; have yo := y6.below hT; have hsz : w6.heap.size ≤ wo.heap.size := hT.size); refine Goes.mk ?_; go_simp; first | exact goes_v | exact goes_b (by assumption) | (first | exact goes_cat2 (by assumption) (by assumption) (by omega) | exact goes_tup (by assumption) (by assumption) | exact goes_pk (by assumption) (by assumption) | exact goes_new hsz) | (refine goes_enter ?_; first | (go_at_call 85; ((with_reducible refine (hcat wo (Below.refl _ _)).mono ?_); rintro e w9 ⟨A9, n9, c9, rfl, ho9, hB9⟩); rw [HX.out] at ho9; exact ret_p (own_isW ho9 (by omega)) hB9) | (go_at_call 84; ((with_reducible refine (hw2 wo A7 n7 c7 xo o7 (by omega)).mono ?_); rintro e w9 ⟨D1, g1, h1', D2, g2, h2', rfl, o13, o14, hB9⟩); exact ret_tup (P := P) o13 o14 hB9)))) | (apply ObsK.p (q := isC ((hdSg s ++ optL s.opts).set 12 (ub x) ++ s.dat)) (by rfl) st_isC; (intro wo hT; (repeat (first | (intro v hv; ((first | (have hcat := hv.out) | (obtain ⟨A7, n7, c7, rfl, o7⟩ := hv) | (obtain ⟨D1, g1, h1', D2, g2, h2', rfl, o13, o14⟩ := hv)))) | (intro _ _ k; try have hcv := cv k))); (have pc := (P6.below hT).cell; have sc := (S6.below hT).cell; have hc := (H6.below hT).cell; have xo := x6.below hT; have oo := (O6.below hT).bs; have yo := y6.below hT; have hsz : w6.heap.size ≤ wo.heap.size := hT.size); refine Goes.mk ?_; go_simp; first | exact goes_v | exact goes_b (by assumption) | (first | exact goes_cat2 (by assumption) (by assumption) (by omega) | exact goes_tup (by assumption) (by assumption) | exact goes_pk (by assumption) (by assumption) | exact goes_new hsz) | (refine goes_enter ?_; first | (go_at_call 85; ((with_reducible refine (hcat wo (Below.refl _ _)).mono ?_); rintro e w9 ⟨A9, n9, c9, rfl, ho9, hB9⟩); rw [HX.out] at ho9; exact ret_p (own_isW ho9 (by omega)) hB9) | (go_at_call 84; ((with_reducible refine (hw2 wo A7 n7 c7 xo o7 (by omega)).mono ?_); rintro e w9 ⟨D1, g1, h1', D2, g2, h2', rfl, o13, o14, hB9⟩); exact ret_tup (P := P) o13 o14 hB9)))) | (apply ObsK.p (q := isW w.heap.size (sL s)) (by rfl) st_isW; (intro wo hT; (repeat (first | (intro v hv; ((first | (have hcat := hv.out) | (obtain ⟨A7, n7, c7, rfl, o7⟩ := hv) | (obtain ⟨D1, g1, h1', D2, g2, h2', rfl, o13, o14⟩ := hv)))) | (intro _ _ k; try have hcv := cv k))); (have pc := (P6.below hT).cell; have sc := (S6.below hT).cell; have hc := (H6.below hT).cell; have xo := x6.below hT; have oo := (O6.below hT).bs; have yo := y6.below hT; have hsz : w6.heap.size ≤ wo.heap.size := hT.size); refine Goes.mk ?_; go_simp; first | exact goes_v | exact goes_b (by assumption) | (first | exact goes_cat2 (by assumption) (by assumption) (by omega) | exact goes_tup (by assumption) (by assumption) | exact goes_pk (by assumption) (by assumption) | exact goes_new hsz) | (refine goes_enter ?_; first | (go_at_call 85; ((with_reducible refine (hcat wo (Below.refl _ _)).mono ?_); rintro e w9 ⟨A9, n9, c9, rfl, ho9, hB9⟩); rw [HX.out] at ho9; exact ret_p (own_isW ho9 (by omega)) hB9) | (go_at_call 84; ((with_reducible refine (hw2 wo A7 n7 c7 xo o7 (by omega)).mono ?_); rintro e w9 ⟨D1, g1, h1', D2, g2, h2', rfl, o13, o14, hB9⟩); exact ret_tup (P := P) o13 o14 hB9)))) | (apply ObsK.p (q := isTup w.heap.size P E) (by rfl) st_isTup; (intro wo hT; (repeat (first | (intro v hv; ((first | (have hcat := hv.out) | (obtain ⟨A7, n7, c7, rfl, o7⟩ := hv) | (obtain ⟨D1, g1, h1', D2, g2, h2', rfl, o13, o14⟩ := hv)))) | (intro _ _ k; try have hcv := cv k))); (have pc := (P6.below hT).cell; have sc := (S6.below hT).cell; have hc := (H6.below hT).cell; have xo := x6.below hT; have oo := (O6.below hT).bs; have yo := y6.below hT; have hsz : w6.heap.size ≤ wo.heap.size := hT.size); refine Goes.mk ?_; go_simp; first | exact goes_v | exact goes_b (by assumption) | (first | exact goes_cat2 (by assumption) (by assumption) (by omega) | exact goes_tup (by assumption) (by assumption) | exact goes_pk (by assumption) (by assumption) | exact goes_new hsz) | (refine goes_enter ?_; first | (go_at_call 85; ((with_reducible refine (hcat wo (Below.refl _ _)).mono ?_); rintro e w9 ⟨A9, n9, c9, rfl, ho9, hB9⟩); rw [HX.out] at ho9; exact ret_p (own_isW ho9 (by omega)) hB9) | (go_at_call 84; ((with_reducible refine (hw2 wo A7 n7 c7 xo o7 (by omega)).mono ?_); rintro e w9 ⟨D1, g1, h1', D2, g2, h2', rfl, o13, o14, hB9⟩); exact ret_tup (P := P) o13 o14 hB9)))) | (apply ObsK.p (q := isPk w.heap.size P) (by rfl) st_isPk; (intro wo hT; (repeat (first | (intro v hv; ((first | (have hcat := hv.out) | (obtain ⟨A7, n7, c7, rfl, o7⟩ := hv) | (obtain ⟨D1, g1, h1', D2, g2, h2', rfl, o13, o14⟩ := hv)))) | (intro _ _ k; try have hcv := cv k))); (have pc := (P6.below hT).cell; have sc := (S6.below hT).cell; have hc := (H6.below hT).cell; have xo := x6.below hT; have oo := (O6.below hT).bs; have yo := y6.below hT; have hsz : w6.heap.size ≤ wo.heap.size := hT.size); refine Goes.mk ?_; go_simp; first | exact goes_v | exact goes_b (by assumption) | (first | exact goes_cat2 (by assumption) (by assumption) (by omega) | exact goes_tup (by assumption) (by assumption) | exact goes_pk (by assumption) (by assumption) | exact goes_new hsz) | (refine goes_enter ?_; first | (go_at_call 85; ((with_reducible refine (hcat wo (Below.refl _ _)).mono ?_); rintro e w9 ⟨A9, n9, c9, rfl, ho9, hB9⟩); rw [HX.out] at ho9; exact ret_p (own_isW ho9 (by omega)) hB9) | (go_at_call 84; ((with_reducible refine (hw2 wo A7 n7 c7 xo o7 (by omega)).mono ?_); rintro e w9 ⟨D1, g1, h1', D2, g2, h2', rfl, o13, o14, hB9⟩); exact ret_tup (P := P) o13 o14 hB9)))) | (apply ObsK.p (q := isNew w6.heap.size #[.int .u8 0, .int .u16 0, .bool false, .int .u8 0, .int .u8 0, .int .u32 0, .int .u32 0, .slice none 0 0, .slice none 0 0] 26) (by rfl) st_isNew; (intro wo hT; (repeat (first | (intro v hv; ((first | (have hcat := hv.out) | (obtain ⟨A7, n7, c7, rfl, o7⟩ := hv) | (obtain ⟨D1, g1, h1', D2, g2, h2', rfl, o13, o14⟩ := hv)))) | (intro _ _ k; try have hcv := cv k))); (have pc := (P6.below hT).cell; have sc := (S6.below hT).cell; have hc := (H6.below hT).cell; have xo := x6.below hT; have oo := (O6.below hT).bs; have yo := y6.below hT; have hsz : w6.heap.size ≤ wo.heap.size := hT.size); refine Goes.mk ?_; go_simp; first | exact goes_v | exact goes_b (by assumption) | (first | exact goes_cat2 (by assumption) (by assumption) (by omega) | exact goes_tup (by assumption) (by assumption) | exact goes_pk (by assumption) (by assumption) | exact goes_new hsz) | (refine goes_enter ?_; first | (go_at_call 85; ((with_reducible refine (hcat wo (Below.refl _ _)).mono ?_); rintro e w9 ⟨A9, n9, c9, rfl, ho9, hB9⟩); rw [HX.out] at ho9; exact ret_p (own_isW ho9 (by omega)) hB9) | (go_at_call 84; ((with_reducible refine (hw2 wo A7 n7 c7 xo o7 (by omega)).mono ?_); rintro e w9 ⟨D1, g1, h1', D2, g2, h2', rfl, o13, o14, hB9⟩); exact ret_tup (P := P) o13 o14 hB9)))))); refine ObsK.nil ?_; intro wz hBz; simp only [finOn, List.drop_succ_cons, List.drop_zero, List.drop_nil]
    rintro v14 ⟨gq, rfl, hgq, Q⟩ v12 ⟨D1, g1, h1', D2, g2, h2', rfl, O13, O14⟩ v11 hv11 v10 hv10 v9 hv9 v8 hv8
    go_simp
    clear hv11 hv10 hv9 hv8
    have Q7 := Q.cell
    have Z7 := Z6.below hBz
    have R7 := R6.trans (hBz.mono r6)
    have qne : k + 1 + 1 ≠ gq := by have := Z6.lt; omega
    by_cases hE0 : E = 0
    · subst hE0
      have hp : P = { p with proto := 6, dat := sL s } := by rw [HP.out]; unfold withP; rw [sL_len, HE.out, if_pos rfl]
      clear HP hw2
      subst hp
      obtain ⟨wf, hwf, Sf⟩ := store9 Q (.int .u8 p.tos) (.int .u16 p.id) (.bool p.keep) (.int .u8 p.ttl) (.int .u8 6) (.int .u32 p.src) (.int .u32 p.dst) (.slice D1 g1 h1') (.slice D2 g2 h2')
      go_wp2_with fail
      have hE : sbE p s = 0 := by unfold sbE; rw [hok, if_pos rfl]; exact HE.out
      have hP : sbP p s = { p with proto := 6, dat := sS p s } := by unfold sbP; rw [if_pos hE]
      have HE1 := Lib.hid hE
      have HP1 := Lib.hid hP
      clear hE hP
      have HS : Hid (put16 (sL s) 16 (psum p 6 (sL s)) = sS p s) := rfl
      have hp' : ({ p with proto := 6, dat := sL s } : Pkt).Ok := by
        obtain ⟨e1, e2, e3, e4, e5, e6⟩ := hp
        exact ⟨e1, e2, e3, ⟨by show (0 : Int) ≤ 6; omega, by show (6 : Int) ≤ 255; omega⟩, e5, e6⟩
      have Qf := Sf.blk
      have O13f := Sf.own O13 (fun a e => O13.ne_blk Q h77 a.block (by rw [e]; rfl))
      have O14f := Sf.own O14 (fun a e => O14.ne_blk Q h77 a.block (by rw [e]; rfl))
      have Zf := Sf.other qne Z7
      have Rf := Sf.bel R7 (by omega)
      have rf := Rf.size
      have g1b : g2 ≤ 140737488400000 := by
        have h1 := O14.len
        rw [sL_len] at h1
        have h2 := okOs_len hok
        unfold sN at h1
        have h3 := kd.len
        omega
      obtain ⟨z, hz⟩ : ∃ z, psum p 6 (sL s) = z := ⟨_, rfl⟩
      have z0 : 0 ≤ z := by rw [← hz]; exact csum_lo _
      have z1 : z ≤ 65535 := by rw [← hz]; exact csum_hi _
      rw [hz] at HS
      have hsum : ∀ W, Bs W D2 g2 h2' (sL s) → Calls Try.prog 86 #[(.agg #[.int .u8 ({ p with proto := 6, dat := sL s }).tos, .int .u16 ({ p with proto := 6, dat := sL s }).id, .bool ({ p with proto := 6, dat := sL s }).keep, .int .u8 ({ p with proto := 6, dat := sL s }).ttl, .int .u8 ({ p with proto := 6, dat := sL s }).proto, .int .u32 ({ p with proto := 6, dat := sL s }).src, .int .u32 ({ p with proto := 6, dat := sL s }).dst, .slice D1 g1 h1', .slice D2 g2 h2']), .int .u8 6, .slice D2 g2 h2'] W fun e w' => e = .returned (.int .u16 z) ∧ Below W.heap.size W w' := fun W bo => by
        have := ssum_any { p with proto := 6, dat := sL s } hp' D1 g1 h1' D2 g2 h2' 6 (by omega) (by omega) D2 g2 h2' (sL s) W bo g1b
        rw [← hz]
        exact this
      clear hwf Sf O13 O14 Q7 hz hp' Q
      refine region_txt 7 (by kernel_rfl) (by kernel_rfl) ?_; (iterate 7 (first | (apply ObsK.skip (by rfl)) | (apply ObsK.v (by rfl); (intro wo hT; (repeat (first | (intro v hv; (skip)) | (intro _ _ k; try have hcv := cv k))); (have qc := (Qf.below hT).cell; have bo := (O14f.below hT).bs; have hsz := hT.size); refine Goes.mk ?_; go_simp; first | exact goes_v | exact goes_b (by assumption) | (refine goes_enter ?_; first | (go_at_call 86; ((with_reducible refine (hsum wo bo).mono ?_); rintro e w9 ⟨rfl, hB9⟩); exact ret_v hB9) | (go_at_call 35; ((with_reducible refine (put16_any D2 g2 h2' (sL s) 16 z z0 z1 wo bo).mono ?_); rintro e w9 ⟨A9, c9, rfl, ho9, hB9⟩); exact ret_p (own_isW (HS.out ▸ ho9) (by omega)) hB9)))) | (apply ObsK.b (by rfl); (intro wo hT; (repeat (first | (intro v hv; (skip)) | (intro _ _ k; try have hcv := cv k))); (have qc := (Qf.below hT).cell; have bo := (O14f.below hT).bs; have hsz := hT.size); refine Goes.mk ?_; go_simp; first | exact goes_v | exact goes_b (by assumption) | (refine goes_enter ?_; first | (go_at_call 86; ((with_reducible refine (hsum wo bo).mono ?_); rintro e w9 ⟨rfl, hB9⟩); exact ret_v hB9) | (go_at_call 35; ((with_reducible refine (put16_any D2 g2 h2' (sL s) 16 z z0 z1 wo bo).mono ?_); rintro e w9 ⟨A9, c9, rfl, ho9, hB9⟩); exact ret_p (own_isW (HS.out ▸ ho9) (by omega)) hB9)))) | (apply ObsK.p (q := isW w.heap.size (sS p s)) (by rfl) st_isW; (intro wo hT; (repeat (first | (intro v hv; (skip)) | (intro _ _ k; try have hcv := cv k))); (have qc := (Qf.below hT).cell; have bo := (O14f.below hT).bs; have hsz := hT.size); refine Goes.mk ?_; go_simp; first | exact goes_v | exact goes_b (by assumption) | (refine goes_enter ?_; first | (go_at_call 86; ((with_reducible refine (hsum wo bo).mono ?_); rintro e w9 ⟨rfl, hB9⟩); exact ret_v hB9) | (go_at_call 35; ((with_reducible refine (put16_any D2 g2 h2' (sL s) 16 z z0 z1 wo bo).mono ?_); rintro e w9 ⟨A9, c9, rfl, ho9, hB9⟩); exact ret_p (own_isW (HS.out ▸ ho9) (by omega)) hB9)))))); refine ObsK.nil ?_; intro wz hBz; simp only [finOn, List.drop_succ_cons, List.drop_zero, List.drop_nil]
      rintro v6 ⟨A9, n9, c9, rfl, O9⟩
      go_simp
      have Q8 := Qf.below hBz
      have Z8 := Zf.below hBz
      have R8 := Rf.trans (hBz.mono rf)
      have O8 := O13f.below hBz
      obtain ⟨wg, hwg, Sg⟩ := store1 Q8 8 (.slice A9 n9 c9)
      simp only [List.setIfInBounds_toArray, List.set_cons_zero, List.set_cons_succ] at Sg
      have qg := Sg.blk.cell
      have Zg := Sg.other qne Z8
      have zg := Zg.cell
      have Og := Sg.own O8 (fun a e => O8.ne_blk Q8 h77 a.block (by rw [e]; rfl))
      have Dg := Sg.own O9 (fun a e => O9.ne_blk Q8 h77 a.block (by rw [e]; rfl))
      have Rg := Sg.bel R8 (by omega)
      have q8 := Q8.cell
      go_wp2_with fail
      obtain ⟨wh, hwh, Sh⟩ := store9 Zg (.int .u8 p.tos) (.int .u16 p.id) (.bool p.keep) (.int .u8 p.ttl) (.int .u8 6) (.int .u32 p.src) (.int .u32 p.dst) (.slice D1 g1 h1') (.slice A9 n9 c9)
      rw [hwh]
      have ph := Sh.blk.cell
      have Oh := Sh.own Og (fun a e => Og.ne_blk Zg h77 a.block (by rw [e]; rfl))
      have Dh := Sh.own Dg (fun a e => Dg.ne_blk Zg h77 a.block (by rw [e]; rfl))
      exact bodyPost_ret (v := .tuple #[.agg #[.int .u8 p.tos, .int .u16 p.id, .bool p.keep, .int .u8 p.ttl, .int .u8 6, .int .u32 p.src, .int .u32 p.dst, .slice D1 g1 h1', .slice A9 n9 c9], .int .i64 0]) (by simp [results, Try.results45, go_sem, ph]) rfl (by rw [HE1.out, HP1.out]; exact ⟨⟨D1, g1, h1', A9, n9, c9, rfl, Oh, Dh, Sh.bel Rg (by omega)⟩⟩)
    · have hE : sbE p s = E := by unfold sbE; rw [hok, if_pos rfl]; exact HE.out
      have hP : sbP p s = zP := by unfold sbP; rw [hE, if_neg hE0]
      have HE1 := Lib.hid hE
      have HP1 := Lib.hid hP
      have e0 : (E == 0) = false := by simpa using hE0
      clear hE hP hE0 hw2 HP HE
      obtain ⟨wf, hwf, Sf⟩ := store9 Q (.int .u8 P.tos) (.int .u16 P.id) (.bool P.keep) (.int .u8 P.ttl) (.int .u8 P.proto) (.int .u32 P.src) (.int .u32 P.dst) (.slice D1 g1 h1') (.slice D2 g2 h2')
      have Zf := Sf.other qne Z7
      have zf := Zf.cell
      have Rf := Sf.bel R7 (by omega)
      go_wp2_with fail
      obtain ⟨wh, hwh, Sh⟩ := store9 Zf (.int .u8 0) (.int .u16 0) (.bool false) (.int .u8 0) (.int .u8 0) (.int .u32 0) (.int .u32 0) (.slice none 0 0) (.slice none 0 0)
      rw [hwh]
      have ph := Sh.blk.cell
      exact bodyPost_ret (v := .tuple #[.agg #[.int .u8 0, .int .u16 0, .bool false, .int .u8 0, .int .u8 0, .int .u32 0, .int .u32 0, .slice none 0 0, .slice none 0 0], .int .i64 E]) (by simp [results, Try.results45, go_sem, ph]) rfl (by rw [HE1.out, HP1.out]; exact wiPost_no (Sh.bel Rf (by omega)))
  · go_wp2_with (first
      | (go_at_call 81; ((with_reducible refine (h4).mono ?_); rintro e w4 hpost); (obtain ⟨rfl, A4, n4, c4, H4, O4, B4, K4⟩ := hpost.out); simp only [List.setIfInBounds_toArray, List.set_cons_zero] at H4; have u4 : 20 = n4 := (by rw [← O4.len]; simp [twos, fours, two, four]); subst u4; have R4 := (R3.trans (hBz.mono (by omega))).trans B4; have P4 := K4 k _ _ h77 (by omega) P3z; have S4 := K4 (k + 1) _ _ h78 (by omega) S3z; have Z4 := K4 (k + 1 + 1) _ _ h77 (by omega) Z3z; have O4' : Own w4 w.heap.size 5 A4 20 c4 (hdSg s) := O4; have s4 := S4.cell; have hl4 := H4.lt; have rs4 := R4.size; have ho := hopts_any w.heap.size w.heap.size (k + 1 + 1 + 1) 120 A4 c4 (hdSg s) w w4 OA on oc s.opts K R4 (Nat.le_refl _) H4 O4' hTs (by omega) (Nat.le_refl _) rs4 rs4)
      | (go_at_call 83; ((with_reducible refine (ho).mono ?_); rintro e w5 hpost5); (obtain ⟨rfl, A5, n5, c5, H5, O5, B5, K5⟩ := hpost5.out); have P5 := K5 k _ _ h77 (by omega) P4; have S5 := K5 (k + 1) _ _ h78 (by omega) S4; have Z5 := K5 (k + 1 + 1) _ _ h77 (by omega) Z4; have R5 := R4.trans B5; rw [hok] at H5; have hc5 := H5.cell; have zc5 := Z5.cell))
    obtain ⟨wf, hwf, Sf⟩ := store9 Z5 (.int .u8 0) (.int .u16 0) (.bool false) (.int .u8 0) (.int .u8 0) (.int .u32 0) (.int .u32 0) (.slice none 0 0) (.slice none 0 0)
    rw [hwf]
    have pf := Sf.blk.cell
    have hE : sbE p s = 4 := by unfold sbE; rw [hok]; rfl
    have hP : sbP p s = zP := by unfold sbP; rw [hE]; rfl
    have HE1 := Lib.hid hE
    have HP1 := Lib.hid hP
    clear hE hP hwf
    exact bodyPost_ret (v := .tuple #[.agg #[.int .u8 0, .int .u16 0, .bool false, .int .u8 0, .int .u8 0, .int .u32 0, .int .u32 0, .slice none 0 0, .slice none 0 0], .int .i64 4]) (by simp [results, Try.results45, go_sem, pf]) rfl (by rw [HE1.out, HP1.out]; exact wiPost_no (Sf.bel R5 (by omega)))
end Go.Proofs.Ytjhpmeagopdaiaa

namespace Go.Proofs.Ytjhpmeagopdaiaa
open Go.RowKit

theorem run_items_ints {P : Program} (w : World) (d : Nat) (e : TypeId) (k : IntKind) (xs ys : Array Value) (f g : Nat → Int) (he : P.underlying e = some (.int k)) (n : Nat)
    (hx : ∀ i, i < n → xs[i]? = some (.int k (f i))) (hy : ∀ i, i < n → ys[i]? = some (.int k (g i))) : ∀ is : List Nat, (∀ i ∈ is, i < n) →
    (Op.eqItems (d + 1) e 1 xs ys is).run P w = .ok (is.all fun i => f i == g i) w
  | [], _ => by simp [Op.eqItems]
  | i :: is, h => by
    have hp : ∀ (zs : Array Value) (h : Nat → Int), (∀ i, i < n → zs[i]? = some (.int k (h i))) → ∀ i, i < n → (part e zs (i * 1)).run P w = .ok (.int k (h i)) w := by
      intro zs h hz i hi'
      have := hz i hi'
      simp [part, isAgg, run_underlying he, Result.andThen, this]
    have hi := h i (by simp)
    have IH := run_items_ints w d e k xs ys f g he n hx hy is (fun j hj => h j (by simp [hj]))
    simp only [Op.eqItems, Sem.run_bind, hp xs f hx i hi, hp ys g hy i hi, Result.andThen_ok, run_equalIn_int w d e k k (f i) (g i) he]
    cases hb : f i == g i <;> simp [IH, hb]
theorem run_eq_ints {P : Program} (w : World) (d : Nat) (t e : TypeId) (k : IntKind) (n : Nat) {i : TypeInfo} (xs ys : Array Value) (f g : Nat → Int) (ht : P.underlying t = some (.array n e)) (he : P.underlying e = some (.int k))
    (hi : P.info? e = some i) (hs : i.size = 1) (hx : ∀ i, i < n → xs[i]? = some (.int k (f i))) (hy : ∀ i, i < n → ys[i]? = some (.int k (g i))) :
    (Op.equalIn (d + 2) t (.agg xs) (.agg ys)).run P w = .ok ((List.range n).all fun i => f i == g i) w := by
  have h1 : P.cellsOf e = 1 := by simp [Program.cellsOf, hi, hs]
  rw [run_equalIn_array w (d + 1) xs ys ht hi, h1]
  exact run_items_ints w d e k xs ys f g he n hx hy _ (fun i hi => List.mem_range.1 hi)
end Go.Proofs.Ytjhpmeagopdaiaa

namespace Go.Proofs.Ytjhpmeagopdaiaa
open Go.RowKit
set_option linter.unusedVariables false
set_option linter.unusedSimpArgs false
set_option linter.unusedSimpArgs false
set_option maxHeartbeats 4000000
set_option maxRecDepth 100000

theorem rdsame_any (m n : Dgm) (A1 : Option Addr) (n1 c1 : Nat) (B1 : Option Addr) (m1 d1 : Nat) (w : World) (k1 : Bs w A1 n1 c1 m.dat) (j1 : Bs w B1 m1 d1 n.dat) :
    Calls Try.prog 28 #[(.agg #[.int .u16 (m).src, .int .u16 (m).dst, .bool (m).bare, .slice A1 n1 c1]), (.agg #[.int .u16 (n).src, .int .u16 (n).dst, .bool (n).bare, .slice B1 m1 d1])] w fun e w' => e = .returned (.bool (sameD m n)) ∧ Below w.heap.size w w' := by
  have x1 := fun o o' => cv ((k1.alloc o).alloc o')
  have y1 := fun o o' => cv ((j1.alloc o).alloc o')
  have s1 := str_beqS m.dat n.dat
  go_enter Try.func28, Try.ntmps28
  go_wp2_with fail
  all_goals go_ret
  all_goals refine ⟨?_, by (repeat (first | with_reducible exact Below.refl _ _ | with_reducible refine below_drew ?_ | with_reducible refine below_drewN ?_ _ | with_reducible refine below_alloc ?_ (Nat.le_refl _) _ | with_reducible refine Below.setCell ?_ (by first | exact Nat.le_refl _ | (simp only []; omega)) _ | with_reducible assumption))⟩
  all_goals simp_all [sameD]
def udE (p : Pkt) : Int := if p.proto ≠ 17 then 12 else if p.dat.length < 8 then 3 else if get16 p.dat 4 ≠ p.dat.length then 4 else if get16 p.dat 6 ≠ 0 ∧ psum p 17 p.dat ≠ 0 then 5 else 0
def rdD (l : List UInt8) : Dgm := ⟨get16 l 0, get16 l 2, get16 l 6 == 0, l.drop 8⟩
def udD (p : Pkt) : Dgm := if udE p = 0 then rdD p.dat else zD
structure DgPost (w : World) (D : Dgm) (E : Int) (e : Ending) (w' : World) : Prop where
  out : ∃ A n c, e = .returned (.tuple #[(.agg #[.int .u16 (D).src, .int .u16 (D).dst, .bool (D).bare, .slice A n c]), .int .i64 E]) ∧ Own w' w.heap.size 5 A n c D.dat ∧ Below w.heap.size w w'
theorem dgPost_no {w w' : World} {E : Int} (hB : Below w.heap.size w w') : DgPost w zD E (.returned (.tuple #[.agg #[.int .u16 0, .int .u16 0, .bool false, .slice none 0 0], .int .i64 E])) w' :=
  ⟨none, 0, 0, rfl, own_nil _ _ _, hB⟩
theorem udp_no (p : Pkt) (hp : p.Ok) (A1 : Option Addr) (n1 c1 : Nat) (A2 : Option Addr) (n2 c2 : Nat) (w : World) (k2 : Bs w A2 n2 c2 p.dat) (E q4 : Int) (b6 : Bool) (hq4 : get16 p.dat 4 = q4) (hb6 : (get16 p.dat 6 == 0) = b6)
    (h : (E = 12 ∧ (p.proto != 17) = true) ∨ (E = 3 ∧ (p.proto != 17) = false ∧ (n2 : Int) < 8) ∨ (E = 4 ∧ (p.proto != 17) = false ∧ 8 ≤ (n2 : Int) ∧ (q4 != (n2 : Int)) = true) ∨ (E = 5 ∧ (p.proto != 17) = false ∧ 8 ≤ (n2 : Int) ∧ (q4 != (n2 : Int)) = false ∧ b6 = false ∧ (psum p 17 p.dat == 0) = false)) :
    Calls Try.prog 46 #[(.agg #[.int .u8 (p).tos, .int .u16 (p).id, .bool (p).keep, .int .u8 (p).ttl, .int .u8 (p).proto, .int .u32 (p).src, .int .u32 (p).dst, .slice A1 n1 c1, .slice A2 n2 c2])] w (DgPost w zD E) := by
  have b2 := k2.max
  have q0 : 0 ≤ q4 := by rw [← hq4]; exact get16_lo _ _
  have q1 : q4 ≤ 65535 := by rw [← hq4]; exact get16_hi _ _
  have hw4 : IntKind.i64.wrap q4 = q4 := by rw [IntKind.wrap_i64]; omega
  have g4 : ∀ W, Bs W A2 n2 c2 p.dat → Calls Try.prog 67 #[.slice A2 n2 c2, .int .i64 4] W fun e w' => e = .returned (.int .u16 q4) ∧ Drawn W w' := fun W k => by have := get16_any A2 n2 c2 p.dat 4 W k; rw [hq4] at this; exact this
  obtain ⟨q6, hq6⟩ : ∃ q, get16 p.dat 6 = q := ⟨_, rfl⟩
  have g6 : ∀ W, Bs W A2 n2 c2 p.dat → Calls Try.prog 67 #[.slice A2 n2 c2, .int .i64 6] W fun e w' => e = .returned (.int .u16 q6) ∧ Drawn W w' := fun W k => by have := get16_any A2 n2 c2 p.dat 6 W k; rw [hq6] at this; exact this
  rw [hq6] at hb6
  clear hq4 hq6
  obtain ⟨k, hk⟩ : ∃ k : Nat, w.heap.size = k := ⟨_, rfl⟩
  obtain ⟨w1, hw1⟩ : ∃ W, ((w.alloc (.cells #[.int .u8 (p).tos, .int .u16 (p).id, .bool (p).keep, .int .u8 (p).ttl, .int .u8 (p).proto, .int .u32 (p).src, .int .u32 (p).dst, .slice A1 n1 c1, .slice A2 n2 c2] 26)).alloc (.cells #[.int .u16 0, .int .u16 0, .bool false, .slice none 0 0] 52)) = W := ⟨_, rfl⟩
  have P1 : Blk w1 k #[.int .u8 (p).tos, .int .u16 (p).id, .bool (p).keep, .int .u8 (p).ttl, .int .u8 (p).proto, .int .u32 (p).src, .int .u32 (p).dst, .slice A1 n1 c1, .slice A2 n2 c2] 26 := by rw [← hw1]; exact ((blk_new _ _ _ k (by simp [hk])).alloc _)
  have Z1 : Blk w1 (k + 1) #[.int .u16 0, .int .u16 0, .bool false, .slice none 0 0] 52 := by rw [← hw1]; exact (blk_new _ _ _ (k + 1) (by simp [hk]))
  have R1 : Below w.heap.size w w1 := by rw [← hw1]; (repeat (first | with_reducible exact Below.refl _ _ | with_reducible refine below_drew ?_ | with_reducible refine below_drewN ?_ _ | with_reducible refine below_alloc ?_ (Nat.le_refl _) _ | with_reducible refine Below.setCell ?_ (by first | exact Nat.le_refl _ | (simp only []; omega)) _ | with_reducible assumption))
  have Pc1 := P1.cell
  have Zc1 := Z1.cell
  have Pl1 := P1.lt
  have Zl1 := Z1.lt
  have x1 := (k2).below R1
  rcases h with ⟨rfl, h1⟩ | ⟨rfl, h1, h2⟩ | ⟨rfl, h1, h2, h3⟩ | ⟨rfl, h1, h2, h3, rfl, h5⟩
  · go_enter Try.func46, Try.ntmps46
    go_wp2_with (go_at_call 67; ((with_reducible refine (g6 w1 x1).mono ?_); rintro e w2 ⟨rfl, hD2⟩); have hB2 := hD2.bel; have P2 := P1.below hB2; have Pc2 := P2.cell; clear Pc1; have Z2 := Z1.below hB2; have Zc2 := Z2.cell; clear Zc1; have x2 := x1.below hB2; have R2 := below_then R1 hB2)
    obtain ⟨wf, hwf, Sf⟩ := store4 Z2 (.int .u16 0) (.int .u16 0) (.bool false) (.slice none 0 0)
    rw [hwf]
    have pf := Sf.blk.cell
    exact bodyPost_ret (by simp [results, Try.results46, go_sem, pf]) rfl (dgPost_no (Sf.bel R2 (by omega)))

  · go_enter Try.func46, Try.ntmps46
    go_wp2_with (go_at_call 67; ((with_reducible refine (g6 w1 x1).mono ?_); rintro e w2 ⟨rfl, hD2⟩); have hB2 := hD2.bel; have P2 := P1.below hB2; have Pc2 := P2.cell; clear Pc1; have Z2 := Z1.below hB2; have Zc2 := Z2.cell; clear Zc1; have x2 := x1.below hB2; have R2 := below_then R1 hB2)
    obtain ⟨wf, hwf, Sf⟩ := store4 Z2 (.int .u16 0) (.int .u16 0) (.bool false) (.slice none 0 0)
    rw [hwf]
    have pf := Sf.blk.cell
    exact bodyPost_ret (by simp [results, Try.results46, go_sem, pf]) rfl (dgPost_no (Sf.bel R2 (by omega)))

  · go_enter Try.func46, Try.ntmps46
    go_wp2_with (first
      | (go_at_call 67; ((with_reducible refine (g6 w1 x1).mono ?_); rintro e w2 ⟨rfl, hD2⟩); have hB2 := hD2.bel; have P2 := P1.below hB2; have Pc2 := P2.cell; clear Pc1; have Z2 := Z1.below hB2; have Zc2 := Z2.cell; clear Zc1; have x2 := x1.below hB2; have R2 := below_then R1 hB2)
      | (go_at_call 67; ((with_reducible refine (g4 w2 x2).mono ?_); rintro e w3 ⟨rfl, hD3⟩); have hB3 := hD3.bel; have P3 := P2.below hB3; have Pc3 := P3.cell; clear Pc2; have Z3 := Z2.below hB3; have Zc3 := Z3.cell; clear Zc2; have x3 := x2.below hB3; have R3 := below_then R2 hB3))
    obtain ⟨wf, hwf, Sf⟩ := store4 Z3 (.int .u16 0) (.int .u16 0) (.bool false) (.slice none 0 0)
    rw [hwf]
    have pf := Sf.blk.cell
    exact bodyPost_ret (by simp [results, Try.results46, go_sem, pf]) rfl (dgPost_no (Sf.bel R3 (by omega)))

  · have n2b : n2 ≤ 140737488400000 := by have : q4 = n2 := by simpa using h3
                                          omega
    go_enter Try.func46, Try.ntmps46
    go_wp2_with (first
      | (go_at_call 67; ((with_reducible refine (g6 w1 x1).mono ?_); rintro e w2 ⟨rfl, hD2⟩); have hB2 := hD2.bel; have P2 := P1.below hB2; have Pc2 := P2.cell; clear Pc1; have Z2 := Z1.below hB2; have Zc2 := Z2.cell; clear Zc1; have x2 := x1.below hB2; have R2 := below_then R1 hB2)
      | (go_at_call 67; ((with_reducible refine (g4 w2 x2).mono ?_); rintro e w3 ⟨rfl, hD3⟩); have hB3 := hD3.bel; have P3 := P2.below hB3; have Pc3 := P3.cell; clear Pc2; have Z3 := Z2.below hB3; have Zc3 := Z3.cell; clear Zc2; have x3 := x2.below hB3; have R3 := below_then R2 hB3)
      | (go_at_call 79; ((with_reducible refine (fits_any p hp A1 n1 c1 A2 n2 c2 17 (by omega) (by omega) w3 x3 n2b).mono ?_); rintro e w4 ⟨he4, hB4⟩); (try rw [h5] at he4); subst he4; have P4 := P3.below hB4; have Pc4 := P4.cell; clear Pc3; have Z4 := Z3.below hB4; have Zc4 := Z4.cell; clear Zc3; have x4 := x3.below hB4; have R4 := below_then R3 hB4))
    obtain ⟨wf, hwf, Sf⟩ := store4 Z4 (.int .u16 0) (.int .u16 0) (.bool false) (.slice none 0 0)
    rw [hwf]
    have pf := Sf.blk.cell
    exact bodyPost_ret (by simp [results, Try.results46, go_sem, pf]) rfl (dgPost_no (Sf.bel R4 (by omega)))
theorem udp_ok (p : Pkt) (hp : p.Ok) (A1 : Option Addr) (n1 c1 : Nat) (A2 : Option Addr) (n2 c2 : Nat) (w : World) (k2 : Bs w A2 n2 c2 p.dat) (q4 : Int) (b6 : Bool) (hq4 : get16 p.dat 4 = q4) (hb6 : (get16 p.dat 6 == 0) = b6)
    (h1 : (p.proto != 17) = false) (h2 : 8 ≤ (n2 : Int)) (h3 : (q4 != (n2 : Int)) = false) (h : b6 = true ∨ (b6 = false ∧ (psum p 17 p.dat == 0) = true)) :
    Calls Try.prog 46 #[(.agg #[.int .u8 (p).tos, .int .u16 (p).id, .bool (p).keep, .int .u8 (p).ttl, .int .u8 (p).proto, .int .u32 (p).src, .int .u32 (p).dst, .slice A1 n1 c1, .slice A2 n2 c2])] w (DgPost w (rdD p.dat) 0) := by
  have hlL : p.dat.take n2 = p.dat := List.take_of_length_le (by rw [k2.len]; exact Nat.le_refl _)
  obtain ⟨i8, hi8, -, hs8, -⟩ := info_parts info_u8
  have b2 := k2.max
  have hcap := k2.cap
  obtain ⟨b, off, rfl⟩ := k2.some_ (by omega)
  have hcut : ∀ W, (Instr.slice 24 (.slice (some ⟨b, off, none⟩) n2 c2) (some (.int .i64 8)) none none).run Try.prog W = _ := fun W => cut_l Try.underlying24 hi8 hs8 (some ⟨b, off, none⟩) n2 c2 .i64 8 (by omega) (by omega) W
  obtain ⟨A', n', c', eA, en, ec, hbD⟩ := k2.cutE (lo := 8) (hi := n2) (by omega) (Nat.le_refl _)
  simp only [show (8 : Int).toNat = 8 from rfl, eA, en, ec] at hcut
  rw [hlL] at hbD
  have hn' : n' ≤ n2 := by omega
  clear eA en ec hlL
  have q0 : 0 ≤ q4 := by rw [← hq4]; exact get16_lo _ _
  have q1 : q4 ≤ 65535 := by rw [← hq4]; exact get16_hi _ _
  have hw4 : IntKind.i64.wrap q4 = q4 := by rw [IntKind.wrap_i64]; omega
  have g4 : ∀ W, Bs W (some ⟨b, off, none⟩) n2 c2 p.dat → Calls Try.prog 67 #[.slice (some ⟨b, off, none⟩) n2 c2, .int .i64 4] W fun e w' => e = .returned (.int .u16 q4) ∧ Drawn W w' := fun W k => by have := get16_any (some ⟨b, off, none⟩) n2 c2 p.dat 4 W k; rw [hq4] at this; exact this
  obtain ⟨q6, hq6⟩ : ∃ q, get16 p.dat 6 = q := ⟨_, rfl⟩
  have g6 : ∀ W, Bs W (some ⟨b, off, none⟩) n2 c2 p.dat → Calls Try.prog 67 #[.slice (some ⟨b, off, none⟩) n2 c2, .int .i64 6] W fun e w' => e = .returned (.int .u16 q6) ∧ Drawn W w' := fun W k => by have := get16_any (some ⟨b, off, none⟩) n2 c2 p.dat 6 W k; rw [hq6] at this; exact this
  rw [hq6] at hb6
  have HQ6 := Lib.hid hq6
  clear hq4 hq6
  obtain ⟨v0, hv0⟩ : ∃ q, get16 p.dat 0 = q := ⟨_, rfl⟩
  obtain ⟨v2, hv2⟩ : ∃ q, get16 p.dat 2 = q := ⟨_, rfl⟩
  have g0 : ∀ W, Bs W (some ⟨b, off, none⟩) n2 c2 p.dat → Calls Try.prog 67 #[.slice (some ⟨b, off, none⟩) n2 c2, .int .i64 0] W fun e w' => e = .returned (.int .u16 v0) ∧ Drawn W w' := fun W k => by have := get16_any (some ⟨b, off, none⟩) n2 c2 p.dat 0 W k; rw [hv0] at this; exact this
  have g2 : ∀ W, Bs W (some ⟨b, off, none⟩) n2 c2 p.dat → Calls Try.prog 67 #[.slice (some ⟨b, off, none⟩) n2 c2, .int .i64 2] W fun e w' => e = .returned (.int .u16 v2) ∧ Drawn W w' := fun W k => by have := get16_any (some ⟨b, off, none⟩) n2 c2 p.dat 2 W k; rw [hv2] at this; exact this
  have HD : Hid (rdD p.dat = ⟨v0, v2, b6, p.dat.drop 8⟩) := by unfold Hid rdD; rw [hv0, hv2, HQ6.out, hb6]
  clear hv0 hv2
  have n2b : n2 ≤ 100000 := by have : q4 = n2 := by simpa using h3
                               omega
  obtain ⟨k, hk⟩ : ∃ k : Nat, w.heap.size = k := ⟨_, rfl⟩
  obtain ⟨w1, hw1⟩ : ∃ W, ((w.alloc (.cells #[.int .u8 (p).tos, .int .u16 (p).id, .bool (p).keep, .int .u8 (p).ttl, .int .u8 (p).proto, .int .u32 (p).src, .int .u32 (p).dst, .slice A1 n1 c1, .slice (some ⟨b, off, none⟩) n2 c2] 26)).alloc (.cells #[.int .u16 0, .int .u16 0, .bool false, .slice none 0 0] 52)) = W := ⟨_, rfl⟩
  have P1 : Blk w1 k #[.int .u8 (p).tos, .int .u16 (p).id, .bool (p).keep, .int .u8 (p).ttl, .int .u8 (p).proto, .int .u32 (p).src, .int .u32 (p).dst, .slice A1 n1 c1, .slice (some ⟨b, off, none⟩) n2 c2] 26 := by rw [← hw1]; exact ((blk_new _ _ _ k (by simp [hk])).alloc _)
  have Z1 : Blk w1 (k + 1) #[.int .u16 0, .int .u16 0, .bool false, .slice none 0 0] 52 := by rw [← hw1]; exact (blk_new _ _ _ (k + 1) (by simp [hk]))
  have R1 : Below w.heap.size w w1 := by rw [← hw1]; (repeat (first | with_reducible exact Below.refl _ _ | with_reducible refine below_drew ?_ | with_reducible refine below_drewN ?_ _ | with_reducible refine below_alloc ?_ (Nat.le_refl _) _ | with_reducible refine Below.setCell ?_ (by first | exact Nat.le_refl _ | (simp only []; omega)) _ | with_reducible assumption))
  have Pc1 := P1.cell
  have Zc1 := Z1.cell
  have Pl1 := P1.lt
  have Zl1 := Z1.lt
  have x1 := (k2).below R1
  rcases h with rfl | ⟨rfl, h5⟩
  · go_enter Try.func46, Try.ntmps46
    go_wp2_with (first
      | (go_at_call 67; ((with_reducible refine (g6 w1 x1).mono ?_); rintro e w2 ⟨rfl, hD2⟩); have hB2 := hD2.bel; have P2 := P1.below hB2; have Pc2 := P2.cell; clear Pc1; have Z2 := Z1.below hB2; have Zc2 := Z2.cell; clear Zc1; have x2 := x1.below hB2; have R2 := below_then R1 hB2)
      | (go_at_call 67; ((with_reducible refine (g4 w2 x2).mono ?_); rintro e w3 ⟨rfl, hD3⟩); have hB3 := hD3.bel; have P3 := P2.below hB3; have Pc3 := P3.cell; clear Pc2; have Z3 := Z2.below hB3; have Zc3 := Z3.cell; clear Zc2; have x3 := x2.below hB3; have R3 := below_then R2 hB3))
    have D3 := hbD.below R3
    have r3s := R3.size
    refine region_txt 8 (by kernel_rfl) (by kernel_rfl) ?_; (iterate 8 (first | (apply ObsK.skip (by rfl)) | (apply ObsK.v (by rfl); (intro wo hT; (repeat (first | (intro v hv; (skip)) | (intro _ _ k; try have hcv := cv k))); (have bo := x3.below hT; have hsz : w3.heap.size ≤ wo.heap.size := hT.size); refine Goes.mk ?_; go_simp; first | exact goes_v | exact goes_b (by assumption) | (refine goes_enter ?_; first | (go_at_call 67; ((with_reducible refine (g0 wo bo).mono ?_); rintro e w9 ⟨rfl, hD9⟩); exact ret_v hD9.bel) | (go_at_call 67; ((with_reducible refine (g2 wo bo).mono ?_); rintro e w9 ⟨rfl, hD9⟩); exact ret_v hD9.bel) | (go_at_call 60; ((with_reducible refine (clone_any A' n' c' _ wo (D3.below hT)).mono ?_); rintro e w9 ⟨A9, c9, rfl, ho9, hB9⟩); exact ret_p (own_isW ho9 hsz) hB9)))) | (apply ObsK.b (by rfl); (intro wo hT; (repeat (first | (intro v hv; (skip)) | (intro _ _ k; try have hcv := cv k))); (have bo := x3.below hT; have hsz : w3.heap.size ≤ wo.heap.size := hT.size); refine Goes.mk ?_; go_simp; first | exact goes_v | exact goes_b (by assumption) | (refine goes_enter ?_; first | (go_at_call 67; ((with_reducible refine (g0 wo bo).mono ?_); rintro e w9 ⟨rfl, hD9⟩); exact ret_v hD9.bel) | (go_at_call 67; ((with_reducible refine (g2 wo bo).mono ?_); rintro e w9 ⟨rfl, hD9⟩); exact ret_v hD9.bel) | (go_at_call 60; ((with_reducible refine (clone_any A' n' c' _ wo (D3.below hT)).mono ?_); rintro e w9 ⟨A9, c9, rfl, ho9, hB9⟩); exact ret_p (own_isW ho9 hsz) hB9)))) | (apply ObsK.p (q := isW w3.heap.size _) (by rfl) st_isW; (intro wo hT; (repeat (first | (intro v hv; (skip)) | (intro _ _ k; try have hcv := cv k))); (have bo := x3.below hT; have hsz : w3.heap.size ≤ wo.heap.size := hT.size); refine Goes.mk ?_; go_simp; first | exact goes_v | exact goes_b (by assumption) | (refine goes_enter ?_; first | (go_at_call 67; ((with_reducible refine (g0 wo bo).mono ?_); rintro e w9 ⟨rfl, hD9⟩); exact ret_v hD9.bel) | (go_at_call 67; ((with_reducible refine (g2 wo bo).mono ?_); rintro e w9 ⟨rfl, hD9⟩); exact ret_v hD9.bel) | (go_at_call 60; ((with_reducible refine (clone_any A' n' c' _ wo (D3.below hT)).mono ?_); rintro e w9 ⟨A9, c9, rfl, ho9, hB9⟩); exact ret_p (own_isW ho9 hsz) hB9)))))); refine ObsK.nil ?_; intro wz hBz; simp only [finOn, List.drop_succ_cons, List.drop_zero, List.drop_nil]
    rintro v9 ⟨A9, n9, c9, rfl, O9⟩
    go_simp
    have Zz := Z3.below hBz
    have zcz := Zz.cell
    have zl := Z3.lt
    obtain ⟨wf, hwf, Sf⟩ := store4 Zz (.int .u16 v0) (.int .u16 v2) (.bool true) (.slice A9 n9 c9)
    have pf := Sf.blk.cell
    have Tf := Sf.bel (below_then R3 hBz) (by omega)
    have Of := Sf.own O9 (fun a e => by have := O9.ge a e; omega)
    go_wp2_with fail
    refine bodyPost_ret (v := .tuple #[.agg #[.int .u16 v0, .int .u16 v2, .bool true, .slice A9 n9 c9], .int .i64 0]) (by simp [results, Try.results46, go_sem, pf]) rfl (by rw [HD.out]; exact ⟨A9, n9, c9, rfl, Of.mono r3s, Tf⟩)

  · go_enter Try.func46, Try.ntmps46
    go_wp2_with (first
      | (go_at_call 67; ((with_reducible refine (g6 w1 x1).mono ?_); rintro e w2 ⟨rfl, hD2⟩); have hB2 := hD2.bel; have P2 := P1.below hB2; have Pc2 := P2.cell; clear Pc1; have Z2 := Z1.below hB2; have Zc2 := Z2.cell; clear Zc1; have x2 := x1.below hB2; have R2 := below_then R1 hB2)
      | (go_at_call 67; ((with_reducible refine (g4 w2 x2).mono ?_); rintro e w3 ⟨rfl, hD3⟩); have hB3 := hD3.bel; have P3 := P2.below hB3; have Pc3 := P3.cell; clear Pc2; have Z3 := Z2.below hB3; have Zc3 := Z3.cell; clear Zc2; have x3 := x2.below hB3; have R3 := below_then R2 hB3)
      | (go_at_call 79; ((with_reducible refine (fits_any p hp A1 n1 c1 (some ⟨b, off, none⟩) n2 c2 17 (by omega) (by omega) w3 x3 (by omega)).mono ?_); rintro e w4 ⟨he4, hB4⟩); (try rw [h5] at he4); subst he4; have P4 := P3.below hB4; have Pc4 := P4.cell; clear Pc3; have Z4 := Z3.below hB4; have Zc4 := Z4.cell; clear Zc3; have x4 := x3.below hB4; have R4 := below_then R3 hB4))
    have D4 := hbD.below R4
    have r4s := R4.size
    refine region_txt 8 (by kernel_rfl) (by kernel_rfl) ?_; (iterate 8 (first | (apply ObsK.skip (by rfl)) | (apply ObsK.v (by rfl); (intro wo hT; (repeat (first | (intro v hv; (skip)) | (intro _ _ k; try have hcv := cv k))); (have bo := x4.below hT; have hsz : w4.heap.size ≤ wo.heap.size := hT.size); refine Goes.mk ?_; go_simp; first | exact goes_v | exact goes_b (by assumption) | (refine goes_enter ?_; first | (go_at_call 67; ((with_reducible refine (g0 wo bo).mono ?_); rintro e w9 ⟨rfl, hD9⟩); exact ret_v hD9.bel) | (go_at_call 67; ((with_reducible refine (g2 wo bo).mono ?_); rintro e w9 ⟨rfl, hD9⟩); exact ret_v hD9.bel) | (go_at_call 60; ((with_reducible refine (clone_any A' n' c' _ wo (D4.below hT)).mono ?_); rintro e w9 ⟨A9, c9, rfl, ho9, hB9⟩); exact ret_p (own_isW ho9 hsz) hB9)))) | (apply ObsK.b (by rfl); (intro wo hT; (repeat (first | (intro v hv; (skip)) | (intro _ _ k; try have hcv := cv k))); (have bo := x4.below hT; have hsz : w4.heap.size ≤ wo.heap.size := hT.size); refine Goes.mk ?_; go_simp; first | exact goes_v | exact goes_b (by assumption) | (refine goes_enter ?_; first | (go_at_call 67; ((with_reducible refine (g0 wo bo).mono ?_); rintro e w9 ⟨rfl, hD9⟩); exact ret_v hD9.bel) | (go_at_call 67; ((with_reducible refine (g2 wo bo).mono ?_); rintro e w9 ⟨rfl, hD9⟩); exact ret_v hD9.bel) | (go_at_call 60; ((with_reducible refine (clone_any A' n' c' _ wo (D4.below hT)).mono ?_); rintro e w9 ⟨A9, c9, rfl, ho9, hB9⟩); exact ret_p (own_isW ho9 hsz) hB9)))) | (apply ObsK.p (q := isW w4.heap.size _) (by rfl) st_isW; (intro wo hT; (repeat (first | (intro v hv; (skip)) | (intro _ _ k; try have hcv := cv k))); (have bo := x4.below hT; have hsz : w4.heap.size ≤ wo.heap.size := hT.size); refine Goes.mk ?_; go_simp; first | exact goes_v | exact goes_b (by assumption) | (refine goes_enter ?_; first | (go_at_call 67; ((with_reducible refine (g0 wo bo).mono ?_); rintro e w9 ⟨rfl, hD9⟩); exact ret_v hD9.bel) | (go_at_call 67; ((with_reducible refine (g2 wo bo).mono ?_); rintro e w9 ⟨rfl, hD9⟩); exact ret_v hD9.bel) | (go_at_call 60; ((with_reducible refine (clone_any A' n' c' _ wo (D4.below hT)).mono ?_); rintro e w9 ⟨A9, c9, rfl, ho9, hB9⟩); exact ret_p (own_isW ho9 hsz) hB9)))))); refine ObsK.nil ?_; intro wz hBz; simp only [finOn, List.drop_succ_cons, List.drop_zero, List.drop_nil]
    rintro v9 ⟨A9, n9, c9, rfl, O9⟩
    go_simp
    have Zz := Z4.below hBz
    have zcz := Zz.cell
    have zl := Z4.lt
    obtain ⟨wf, hwf, Sf⟩ := store4 Zz (.int .u16 v0) (.int .u16 v2) (.bool false) (.slice A9 n9 c9)
    have pf := Sf.blk.cell
    have Tf := Sf.bel (below_then R4 hBz) (by omega)
    have Of := Sf.own O9 (fun a e => by have := O9.ge a e; omega)
    go_wp2_with fail
    refine bodyPost_ret (v := .tuple #[.agg #[.int .u16 v0, .int .u16 v2, .bool false, .slice A9 n9 c9], .int .i64 0]) (by simp [results, Try.results46, go_sem, pf]) rfl (by rw [HD.out]; exact ⟨A9, n9, c9, rfl, Of.mono r4s, Tf⟩)
theorem ud_ways (p : Pkt) (n2 : Nat) (l2 : p.dat.length = n2) :
    (udE p ≠ 0 ∧ ((udE p = 12 ∧ (p.proto != 17) = true) ∨ (udE p = 3 ∧ (p.proto != 17) = false ∧ (n2 : Int) < 8) ∨ (udE p = 4 ∧ (p.proto != 17) = false ∧ 8 ≤ (n2 : Int) ∧ (get16 p.dat 4 != (n2 : Int)) = true) ∨ (udE p = 5 ∧ (p.proto != 17) = false ∧ 8 ≤ (n2 : Int) ∧ (get16 p.dat 4 != (n2 : Int)) = false ∧ (get16 p.dat 6 == 0) = false ∧ (psum p 17 p.dat == 0) = false))) ∨
    (udE p = 0 ∧ (p.proto != 17) = false ∧ 8 ≤ (n2 : Int) ∧ (get16 p.dat 4 != (n2 : Int)) = false ∧ ((get16 p.dat 6 == 0) = true ∨ ((get16 p.dat 6 == 0) = false ∧ (psum p 17 p.dat == 0) = true))) := by
  unfold udE
  rw [l2]
  by_cases h1 : p.proto = 17
  · by_cases h2 : n2 < 8
    · have h2' : (n2 : Int) < 8 := by omega
      simp [h1, h2, h2']
    · have h2' : 8 ≤ (n2 : Int) := by omega
      by_cases h3 : get16 p.dat 4 = n2
      · by_cases h6 : get16 p.dat 6 = 0
        · simp [h1, h2, h2', h3, h6]
        · by_cases h5 : psum p 17 p.dat = 0
          · simp [h1, h2, h2', h3, h6, h5]
          · simp [h1, h2, h2', h3, h6, h5]
      · simp [h1, h2, h2', h3]
  · simp [h1]
theorem udp_any (p : Pkt) (hp : p.Ok) (A1 : Option Addr) (n1 c1 : Nat) (A2 : Option Addr) (n2 c2 : Nat) (w : World) (k2 : Bs w A2 n2 c2 p.dat) :
    Calls Try.prog 46 #[(.agg #[.int .u8 (p).tos, .int .u16 (p).id, .bool (p).keep, .int .u8 (p).ttl, .int .u8 (p).proto, .int .u32 (p).src, .int .u32 (p).dst, .slice A1 n1 c1, .slice A2 n2 c2])] w (DgPost w (udD p) (udE p)) := by
  unfold udD
  rcases ud_ways p n2 k2.len with ⟨h0, h⟩ | ⟨h0, h1, h2, h3, h⟩
  · rw [if_neg h0]
    exact udp_no p hp A1 n1 c1 A2 n2 c2 w k2 _ _ _ rfl rfl h
  · rw [if_pos h0, h0]
    exact udp_ok p hp A1 n1 c1 A2 n2 c2 w k2 _ _ rfl rfl h1 h2 h3 h
theorem rudp_no (p : Pkt) (hp : p.Ok) (A1 : Option Addr) (n1 c1 : Nat) (A2 : Option Addr) (n2 c2 : Nat) (w : World) (k2 : Bs w A2 n2 c2 p.dat) (E q4 : Int) (b6 : Bool) (hq4 : get16 p.dat 4 = q4) (hb6 : (get16 p.dat 6 == 0) = b6)
    (h : (E = 12 ∧ (p.proto != 17) = true) ∨ (E = 3 ∧ (p.proto != 17) = false ∧ (n2 : Int) < 8) ∨ (E = 4 ∧ (p.proto != 17) = false ∧ 8 ≤ (n2 : Int) ∧ (q4 != (n2 : Int)) = true) ∨ (E = 5 ∧ (p.proto != 17) = false ∧ 8 ≤ (n2 : Int) ∧ (q4 != (n2 : Int)) = false ∧ b6 = false ∧ (psum p 17 p.dat == 0) = false)) :
    Calls Try.prog 24 #[(.agg #[.int .u8 (p).tos, .int .u16 (p).id, .bool (p).keep, .int .u8 (p).ttl, .int .u8 (p).proto, .int .u32 (p).src, .int .u32 (p).dst, .slice A1 n1 c1, .slice A2 n2 c2])] w (DgPost w zD E) := by
  have b2 := k2.max
  have q0 : 0 ≤ q4 := by rw [← hq4]; exact get16_lo _ _
  have q1 : q4 ≤ 65535 := by rw [← hq4]; exact get16_hi _ _
  have hw4 : IntKind.i64.wrap q4 = q4 := by rw [IntKind.wrap_i64]; omega
  have g4 : ∀ W, Bs W A2 n2 c2 p.dat → Calls Try.prog 55 #[.slice A2 n2 c2, .int .i64 4] W fun e w' => e = .returned (.int .u16 q4) ∧ Drawn W w' := fun W k => by have := rget16_any A2 n2 c2 p.dat 4 W k; rw [hq4] at this; exact this
  obtain ⟨q6, hq6⟩ : ∃ q, get16 p.dat 6 = q := ⟨_, rfl⟩
  have g6 : ∀ W, Bs W A2 n2 c2 p.dat → Calls Try.prog 55 #[.slice A2 n2 c2, .int .i64 6] W fun e w' => e = .returned (.int .u16 q6) ∧ Drawn W w' := fun W k => by have := rget16_any A2 n2 c2 p.dat 6 W k; rw [hq6] at this; exact this
  rw [hq6] at hb6
  clear hq4 hq6
  obtain ⟨k, hk⟩ : ∃ k : Nat, w.heap.size = k := ⟨_, rfl⟩
  obtain ⟨w1, hw1⟩ : ∃ W, ((w.alloc (.cells #[.int .u8 (p).tos, .int .u16 (p).id, .bool (p).keep, .int .u8 (p).ttl, .int .u8 (p).proto, .int .u32 (p).src, .int .u32 (p).dst, .slice A1 n1 c1, .slice A2 n2 c2] 26)).alloc (.cells #[.int .u16 0, .int .u16 0, .bool false, .slice none 0 0] 52)) = W := ⟨_, rfl⟩
  have P1 : Blk w1 k #[.int .u8 (p).tos, .int .u16 (p).id, .bool (p).keep, .int .u8 (p).ttl, .int .u8 (p).proto, .int .u32 (p).src, .int .u32 (p).dst, .slice A1 n1 c1, .slice A2 n2 c2] 26 := by rw [← hw1]; exact ((blk_new _ _ _ k (by simp [hk])).alloc _)
  have Z1 : Blk w1 (k + 1) #[.int .u16 0, .int .u16 0, .bool false, .slice none 0 0] 52 := by rw [← hw1]; exact (blk_new _ _ _ (k + 1) (by simp [hk]))
  have R1 : Below w.heap.size w w1 := by rw [← hw1]; (repeat (first | with_reducible exact Below.refl _ _ | with_reducible refine below_drew ?_ | with_reducible refine below_drewN ?_ _ | with_reducible refine below_alloc ?_ (Nat.le_refl _) _ | with_reducible refine Below.setCell ?_ (by first | exact Nat.le_refl _ | (simp only []; omega)) _ | with_reducible assumption))
  have Pc1 := P1.cell
  have Zc1 := Z1.cell
  have Pl1 := P1.lt
  have Zl1 := Z1.lt
  have x1 := (k2).below R1
  rcases h with ⟨rfl, h1⟩ | ⟨rfl, h1, h2⟩ | ⟨rfl, h1, h2, h3⟩ | ⟨rfl, h1, h2, h3, rfl, h5⟩
  · go_enter Try.func24, Try.ntmps24
    go_wp2_with fail
    obtain ⟨wf, hwf, Sf⟩ := store4 Z1 (.int .u16 0) (.int .u16 0) (.bool false) (.slice none 0 0)
    rw [hwf]
    have pf := Sf.blk.cell
    exact bodyPost_ret (by simp [results, Try.results24, go_sem, pf]) rfl (dgPost_no (Sf.bel R1 (by omega)))
  · go_enter Try.func24, Try.ntmps24
    go_wp2_with fail
    obtain ⟨wf, hwf, Sf⟩ := store4 Z1 (.int .u16 0) (.int .u16 0) (.bool false) (.slice none 0 0)
    rw [hwf]
    have pf := Sf.blk.cell
    exact bodyPost_ret (by simp [results, Try.results24, go_sem, pf]) rfl (dgPost_no (Sf.bel R1 (by omega)))
  · go_enter Try.func24, Try.ntmps24
    go_wp2_with (go_at_call 55; ((with_reducible refine (g4 w1 x1).mono ?_); rintro e w2 ⟨rfl, hD2⟩); have hB2 := hD2.bel; have P2 := P1.below hB2; have Pc2 := P2.cell; clear Pc1; have Z2 := Z1.below hB2; have Zc2 := Z2.cell; clear Zc1; have x2 := x1.below hB2; have R2 := below_then R1 hB2)
    obtain ⟨wf, hwf, Sf⟩ := store4 Z2 (.int .u16 0) (.int .u16 0) (.bool false) (.slice none 0 0)
    rw [hwf]
    have pf := Sf.blk.cell
    exact bodyPost_ret (by simp [results, Try.results24, go_sem, pf]) rfl (dgPost_no (Sf.bel R2 (by omega)))

  · have n2b : n2 ≤ 17592186044400 := by have : q4 = n2 := by simpa using h3
                                         omega
    have h6 : ∀ z : Int, (z == 0) = false → (z != 0) = true := fun z h => by simpa using h
    have h5' := h6 _ h5
    go_enter Try.func24, Try.ntmps24
    go_wp2_with (first
      | (go_at_call 55; ((with_reducible refine (g4 w1 x1).mono ?_); rintro e w2 ⟨rfl, hD2⟩); have hB2 := hD2.bel; have P2 := P1.below hB2; have Pc2 := P2.cell; clear Pc1; have Z2 := Z1.below hB2; have Zc2 := Z2.cell; clear Zc1; have x2 := x1.below hB2; have R2 := below_then R1 hB2)
      | (go_at_call 55; ((with_reducible refine (g6 w2 x2).mono ?_); rintro e w3 ⟨rfl, hD3⟩); have hB3 := hD3.bel; have P3 := P2.below hB3; have Pc3 := P3.cell; clear Pc2; have Z3 := Z2.below hB3; have Zc3 := Z3.cell; clear Zc2; have x3 := x2.below hB3; have R3 := below_then R2 hB3)
      | (go_at_call 52; ((with_reducible refine (rssum_any p hp A1 n1 c1 A2 n2 c2 17 (by omega) (by omega) A2 n2 c2 p.dat w3 x3 n2b).mono ?_); rintro e w4 ⟨rfl, hB4⟩); have P4 := P3.below hB4; have Pc4 := P4.cell; clear Pc3; have Z4 := Z3.below hB4; have Zc4 := Z4.cell; clear Zc3; have x4 := x3.below hB4; have R4 := below_then R3 hB4))
    obtain ⟨wf, hwf, Sf⟩ := store4 Z4 (.int .u16 0) (.int .u16 0) (.bool false) (.slice none 0 0)
    rw [hwf]
    have pf := Sf.blk.cell
    exact bodyPost_ret (by simp [results, Try.results24, go_sem, pf]) rfl (dgPost_no (Sf.bel R4 (by omega)))
theorem rudp_ok (p : Pkt) (hp : p.Ok) (A1 : Option Addr) (n1 c1 : Nat) (A2 : Option Addr) (n2 c2 : Nat) (w : World) (k2 : Bs w A2 n2 c2 p.dat) (q4 : Int) (b6 : Bool) (hq4 : get16 p.dat 4 = q4) (hb6 : (get16 p.dat 6 == 0) = b6)
    (h1 : (p.proto != 17) = false) (h2 : 8 ≤ (n2 : Int)) (h3 : (q4 != (n2 : Int)) = false) (h : b6 = true ∨ (b6 = false ∧ (psum p 17 p.dat == 0) = true)) :
    Calls Try.prog 24 #[(.agg #[.int .u8 (p).tos, .int .u16 (p).id, .bool (p).keep, .int .u8 (p).ttl, .int .u8 (p).proto, .int .u32 (p).src, .int .u32 (p).dst, .slice A1 n1 c1, .slice A2 n2 c2])] w (DgPost w (rdD p.dat) 0) := by
  have hlL : p.dat.take n2 = p.dat := List.take_of_length_le (by rw [k2.len]; exact Nat.le_refl _)
  obtain ⟨i8, hi8, -, hs8, -⟩ := info_parts info_u8
  have b2 := k2.max
  have hcap := k2.cap
  obtain ⟨b, off, rfl⟩ := k2.some_ (by omega)
  have hcut : ∀ W, (Instr.slice 24 (.slice (some ⟨b, off, none⟩) n2 c2) (some (.int .i64 8)) none none).run Try.prog W = _ := fun W => cut_l Try.underlying24 hi8 hs8 (some ⟨b, off, none⟩) n2 c2 .i64 8 (by omega) (by omega) W
  obtain ⟨A', n', c', eA, en, ec, hbD⟩ := k2.cutE (lo := 8) (hi := n2) (by omega) (Nat.le_refl _)
  simp only [show (8 : Int).toNat = 8 from rfl, eA, en, ec] at hcut
  rw [hlL] at hbD
  have hn' : n' ≤ n2 := by omega
  clear eA en ec hlL
  have q0 : 0 ≤ q4 := by rw [← hq4]; exact get16_lo _ _
  have q1 : q4 ≤ 65535 := by rw [← hq4]; exact get16_hi _ _
  have hw4 : IntKind.i64.wrap q4 = q4 := by rw [IntKind.wrap_i64]; omega
  have g4 : ∀ W, Bs W (some ⟨b, off, none⟩) n2 c2 p.dat → Calls Try.prog 55 #[.slice (some ⟨b, off, none⟩) n2 c2, .int .i64 4] W fun e w' => e = .returned (.int .u16 q4) ∧ Drawn W w' := fun W k => by have := rget16_any (some ⟨b, off, none⟩) n2 c2 p.dat 4 W k; rw [hq4] at this; exact this
  obtain ⟨q6, hq6⟩ : ∃ q, get16 p.dat 6 = q := ⟨_, rfl⟩
  have g6 : ∀ W, Bs W (some ⟨b, off, none⟩) n2 c2 p.dat → Calls Try.prog 55 #[.slice (some ⟨b, off, none⟩) n2 c2, .int .i64 6] W fun e w' => e = .returned (.int .u16 q6) ∧ Drawn W w' := fun W k => by have := rget16_any (some ⟨b, off, none⟩) n2 c2 p.dat 6 W k; rw [hq6] at this; exact this
  rw [hq6] at hb6
  have HQ6 := Lib.hid hq6
  clear hq4 hq6
  obtain ⟨v0, hv0⟩ : ∃ q, get16 p.dat 0 = q := ⟨_, rfl⟩
  obtain ⟨v2, hv2⟩ : ∃ q, get16 p.dat 2 = q := ⟨_, rfl⟩
  have g0 : ∀ W, Bs W (some ⟨b, off, none⟩) n2 c2 p.dat → Calls Try.prog 55 #[.slice (some ⟨b, off, none⟩) n2 c2, .int .i64 0] W fun e w' => e = .returned (.int .u16 v0) ∧ Drawn W w' := fun W k => by have := rget16_any (some ⟨b, off, none⟩) n2 c2 p.dat 0 W k; rw [hv0] at this; exact this
  have g2 : ∀ W, Bs W (some ⟨b, off, none⟩) n2 c2 p.dat → Calls Try.prog 55 #[.slice (some ⟨b, off, none⟩) n2 c2, .int .i64 2] W fun e w' => e = .returned (.int .u16 v2) ∧ Drawn W w' := fun W k => by have := rget16_any (some ⟨b, off, none⟩) n2 c2 p.dat 2 W k; rw [hv2] at this; exact this
  have HD : Hid (rdD p.dat = ⟨v0, v2, b6, p.dat.drop 8⟩) := by unfold Hid rdD; rw [hv0, hv2, HQ6.out, hb6]
  clear hv0 hv2
  have n2b : n2 ≤ 100000 := by have : q4 = n2 := by simpa using h3
                               omega
  obtain ⟨k, hk⟩ : ∃ k : Nat, w.heap.size = k := ⟨_, rfl⟩
  obtain ⟨w1, hw1⟩ : ∃ W, ((w.alloc (.cells #[.int .u8 (p).tos, .int .u16 (p).id, .bool (p).keep, .int .u8 (p).ttl, .int .u8 (p).proto, .int .u32 (p).src, .int .u32 (p).dst, .slice A1 n1 c1, .slice (some ⟨b, off, none⟩) n2 c2] 26)).alloc (.cells #[.int .u16 0, .int .u16 0, .bool false, .slice none 0 0] 52)) = W := ⟨_, rfl⟩
  have P1 : Blk w1 k #[.int .u8 (p).tos, .int .u16 (p).id, .bool (p).keep, .int .u8 (p).ttl, .int .u8 (p).proto, .int .u32 (p).src, .int .u32 (p).dst, .slice A1 n1 c1, .slice (some ⟨b, off, none⟩) n2 c2] 26 := by rw [← hw1]; exact ((blk_new _ _ _ k (by simp [hk])).alloc _)
  have Z1 : Blk w1 (k + 1) #[.int .u16 0, .int .u16 0, .bool false, .slice none 0 0] 52 := by rw [← hw1]; exact (blk_new _ _ _ (k + 1) (by simp [hk]))
  have R1 : Below w.heap.size w w1 := by rw [← hw1]; (repeat (first | with_reducible exact Below.refl _ _ | with_reducible refine below_drew ?_ | with_reducible refine below_drewN ?_ _ | with_reducible refine below_alloc ?_ (Nat.le_refl _) _ | with_reducible refine Below.setCell ?_ (by first | exact Nat.le_refl _ | (simp only []; omega)) _ | with_reducible assumption))
  have Pc1 := P1.cell
  have Zc1 := Z1.cell
  have Pl1 := P1.lt
  have Zl1 := Z1.lt
  have x1 := (k2).below R1
  rcases h with rfl | ⟨rfl, h5⟩
  · go_enter Try.func24, Try.ntmps24
    go_wp2_with (first
      | (go_at_call 55; ((with_reducible refine (g4 w1 x1).mono ?_); rintro e w2 ⟨rfl, hD2⟩); have hB2 := hD2.bel; have P2 := P1.below hB2; have Pc2 := P2.cell; clear Pc1; have Z2 := Z1.below hB2; have Zc2 := Z2.cell; clear Zc1; have x2 := x1.below hB2; have R2 := below_then R1 hB2)
      | (go_at_call 55; ((with_reducible refine (g6 w2 x2).mono ?_); rintro e w3 ⟨rfl, hD3⟩); have hB3 := hD3.bel; have P3 := P2.below hB3; have Pc3 := P3.cell; clear Pc2; have Z3 := Z2.below hB3; have Zc3 := Z3.cell; clear Zc2; have x3 := x2.below hB3; have R3 := below_then R2 hB3)
      | (go_at_call 55; ((with_reducible refine (g0 w3 x3).mono ?_); rintro e w4 ⟨rfl, hD4⟩); have hB4 := hD4.bel; have P4 := P3.below hB4; have Pc4 := P4.cell; clear Pc3; have Z4 := Z3.below hB4; have Zc4 := Z4.cell; clear Zc3; have x4 := x3.below hB4; have R4 := below_then R3 hB4)
      | (go_at_call 55; ((with_reducible refine (g2 w4 x4).mono ?_); rintro e w5 ⟨rfl, hD5⟩); have hB5 := hD5.bel; have P5 := P4.below hB5; have Pc5 := P5.cell; clear Pc4; have Z5 := Z4.below hB5; have Zc5 := Z5.cell; clear Zc4; have x5 := x4.below hB5; have R5 := below_then R4 hB5))
    obtain ⟨wq, hwq⟩ : ∃ W, w5.alloc (.cells #[.int .u16 v0, .int .u16 v2, .bool true, .slice none 0 0] 52) = W := ⟨_, rfl⟩
    have G := blk_new w5 #[.int .u16 v0, .int .u16 v2, .bool true, .slice none 0 0] 52 _ rfl
    have Vq : Below w5.heap.size w5 wq := by rw [← hwq]; (repeat (first | with_reducible exact Below.refl _ _ | with_reducible refine below_drew ?_ | with_reducible refine below_drewN ?_ _ | with_reducible refine below_alloc ?_ (Nat.le_refl _) _ | with_reducible refine Below.setCell ?_ (by first | exact Nat.le_refl _ | (simp only []; omega)) _ | with_reducible assumption))
    rw [hwq] at G ⊢
    have Zq := Z5.below Vq
    have Tq := below_then R5 Vq
    have Dq := hbD.below Tq
    have zl := Z5.lt
    have rs := R5.size
    have hg : w.heap.size ≤ w5.heap.size := rs
    clear hwq
    refine region_txt 4 (by kernel_rfl) (by kernel_rfl) ?_; (iterate 4 (first | (apply ObsK.skip (by rfl)) | (apply ObsK.v (by rfl); (intro wo hT; (repeat (first | (intro _ _ k; try have hcv := cv k))); (have gc := (G.below hT).cell); refine Goes.mk ?_; go_simp; first | exact goes_v | exact goes_b (by assumption) | (refine goes_enter ?_; first | fail))) | (apply ObsK.b (by rfl); (intro wo hT; (repeat (first | (intro _ _ k; try have hcv := cv k))); (have gc := (G.below hT).cell); refine Goes.mk ?_; go_simp; first | exact goes_v | exact goes_b (by assumption) | (refine goes_enter ?_; first | fail))))); refine ObsK.nil ?_; intro wz hBz; simp only [finOn, List.drop_succ_cons, List.drop_zero, List.drop_nil]
    go_simp
    have G5 := G.below hBz
    have Z5 := Zq.below hBz
    have T5 := below_then Tq hBz
    have D5 := Dq.below hBz
    have gs := hBz.size
    have gl := G.lt
    go_wp2_with (first
      | (at_builtin; refine wpList_append_bs (w0 := wz) _ rfl _ _ _ rfl wz.heap.size 5 Try.underlying24 info_u8 none 0 0 [] rfl (own_nil _ _ _) A' n' c' _ rfl D5 (Below.refl _ _) (by omega) (by first | exact Nat.le_refl _ | exact Below.size (Below.refl _ _) | omega | (simp <;> omega)) ?_; intro A7 n7 c7 w7 ho7 hB7 _ hz7; have u7 : n7 = n' := (by have := ho7.len; have := D5.len; simp at *; omega); subst u7; replace ho7 : Own w7 wz.heap.size 5 A7 n7 c7 (p.dat.drop 8) := ho7; have G7 := G5.below hB7; have gc7 := G7.cell; (obtain ⟨w8, hw8, S8⟩ := store1 G7 3 (.slice A7 n7 c7)); simp only [List.setIfInBounds_toArray, List.set_cons_zero, List.set_cons_succ] at S8; have gc8 := S8.blk.cell; have Z8 := S8.other (by omega) (Z5.below hB7); have zc8 := Z8.cell; have T8 := S8.bel (below_then T5 hB7) (by omega); have O8 := S8.own ho7 (fun a e => by have := ho7.ge a e; omega)))
    obtain ⟨wf, hwf, Sf⟩ := store4 Z8 (.int .u16 v0) (.int .u16 v2) (.bool true) (.slice A7 n7 c7)
    rw [hwf]
    have pf := Sf.blk.cell
    have Of := Sf.own O8 (fun a e => by have := ho7.ge a e; omega)
    have s5 := T5.size
    refine bodyPost_ret (v := .tuple #[.agg #[.int .u16 v0, .int .u16 v2, .bool true, .slice A7 n7 c7], .int .i64 0]) (by simp [results, Try.results24, go_sem, pf]) rfl (by rw [HD.out]; exact ⟨A7, n7, c7, rfl, Of.mono s5, Sf.bel T8 (by omega)⟩)

  · have h6 : ∀ z : Int, (z == 0) = true → (z != 0) = false := fun z h => by simpa using h
    have h5' := h6 _ h5
    go_enter Try.func24, Try.ntmps24
    go_wp2_with (first
      | (go_at_call 55; ((with_reducible refine (g4 w1 x1).mono ?_); rintro e w2 ⟨rfl, hD2⟩); have hB2 := hD2.bel; have P2 := P1.below hB2; have Pc2 := P2.cell; clear Pc1; have Z2 := Z1.below hB2; have Zc2 := Z2.cell; clear Zc1; have x2 := x1.below hB2; have R2 := below_then R1 hB2)
      | (go_at_call 55; ((with_reducible refine (g6 w2 x2).mono ?_); rintro e w3 ⟨rfl, hD3⟩); have hB3 := hD3.bel; have P3 := P2.below hB3; have Pc3 := P3.cell; clear Pc2; have Z3 := Z2.below hB3; have Zc3 := Z3.cell; clear Zc2; have x3 := x2.below hB3; have R3 := below_then R2 hB3)
      | (go_at_call 52; ((with_reducible refine (rssum_any p hp A1 n1 c1 (some ⟨b, off, none⟩) n2 c2 17 (by omega) (by omega) (some ⟨b, off, none⟩) n2 c2 p.dat w3 x3 (by omega)).mono ?_); rintro e w4 ⟨rfl, hB4⟩); have P4 := P3.below hB4; have Pc4 := P4.cell; clear Pc3; have Z4 := Z3.below hB4; have Zc4 := Z4.cell; clear Zc3; have x4 := x3.below hB4; have R4 := below_then R3 hB4)
      | (go_at_call 55; ((with_reducible refine (g0 w4 x4).mono ?_); rintro e w5 ⟨rfl, hD5⟩); have hB5 := hD5.bel; have P5 := P4.below hB5; have Pc5 := P5.cell; clear Pc4; have Z5 := Z4.below hB5; have Zc5 := Z5.cell; clear Zc4; have x5 := x4.below hB5; have R5 := below_then R4 hB5)
      | (go_at_call 55; ((with_reducible refine (g2 w5 x5).mono ?_); rintro e w6 ⟨rfl, hD6⟩); have hB6 := hD6.bel; have P6 := P5.below hB6; have Pc6 := P6.cell; clear Pc5; have Z6 := Z5.below hB6; have Zc6 := Z6.cell; clear Zc5; have x6 := x5.below hB6; have R6 := below_then R5 hB6))
    obtain ⟨wq, hwq⟩ : ∃ W, w6.alloc (.cells #[.int .u16 v0, .int .u16 v2, .bool false, .slice none 0 0] 52) = W := ⟨_, rfl⟩
    have G := blk_new w6 #[.int .u16 v0, .int .u16 v2, .bool false, .slice none 0 0] 52 _ rfl
    have Vq : Below w6.heap.size w6 wq := by rw [← hwq]; (repeat (first | with_reducible exact Below.refl _ _ | with_reducible refine below_drew ?_ | with_reducible refine below_drewN ?_ _ | with_reducible refine below_alloc ?_ (Nat.le_refl _) _ | with_reducible refine Below.setCell ?_ (by first | exact Nat.le_refl _ | (simp only []; omega)) _ | with_reducible assumption))
    rw [hwq] at G ⊢
    have Zq := Z6.below Vq
    have Tq := below_then R6 Vq
    have Dq := hbD.below Tq
    have zl := Z6.lt
    have rs := R6.size
    have hg : w.heap.size ≤ w6.heap.size := rs
    clear hwq
    refine region_txt 4 (by kernel_rfl) (by kernel_rfl) ?_; (iterate 4 (first | (apply ObsK.skip (by rfl)) | (apply ObsK.v (by rfl); (intro wo hT; (repeat (first | (intro _ _ k; try have hcv := cv k))); (have gc := (G.below hT).cell); refine Goes.mk ?_; go_simp; first | exact goes_v | exact goes_b (by assumption) | (refine goes_enter ?_; first | fail))) | (apply ObsK.b (by rfl); (intro wo hT; (repeat (first | (intro _ _ k; try have hcv := cv k))); (have gc := (G.below hT).cell); refine Goes.mk ?_; go_simp; first | exact goes_v | exact goes_b (by assumption) | (refine goes_enter ?_; first | fail))))); refine ObsK.nil ?_; intro wz hBz; simp only [finOn, List.drop_succ_cons, List.drop_zero, List.drop_nil]
    go_simp
    have G5 := G.below hBz
    have Z5 := Zq.below hBz
    have T5 := below_then Tq hBz
    have D5 := Dq.below hBz
    have gs := hBz.size
    have gl := G.lt
    go_wp2_with (first
      | (at_builtin; refine wpList_append_bs (w0 := wz) _ rfl _ _ _ rfl wz.heap.size 5 Try.underlying24 info_u8 none 0 0 [] rfl (own_nil _ _ _) A' n' c' _ rfl D5 (Below.refl _ _) (by omega) (by first | exact Nat.le_refl _ | exact Below.size (Below.refl _ _) | omega | (simp <;> omega)) ?_; intro A7 n7 c7 w7 ho7 hB7 _ hz7; have u7 : n7 = n' := (by have := ho7.len; have := D5.len; simp at *; omega); subst u7; replace ho7 : Own w7 wz.heap.size 5 A7 n7 c7 (p.dat.drop 8) := ho7; have G7 := G5.below hB7; have gc7 := G7.cell; (obtain ⟨w8, hw8, S8⟩ := store1 G7 3 (.slice A7 n7 c7)); simp only [List.setIfInBounds_toArray, List.set_cons_zero, List.set_cons_succ] at S8; have gc8 := S8.blk.cell; have Z8 := S8.other (by omega) (Z5.below hB7); have zc8 := Z8.cell; have T8 := S8.bel (below_then T5 hB7) (by omega); have O8 := S8.own ho7 (fun a e => by have := ho7.ge a e; omega)))
    obtain ⟨wf, hwf, Sf⟩ := store4 Z8 (.int .u16 v0) (.int .u16 v2) (.bool false) (.slice A7 n7 c7)
    rw [hwf]
    have pf := Sf.blk.cell
    have Of := Sf.own O8 (fun a e => by have := ho7.ge a e; omega)
    have s5 := T5.size
    refine bodyPost_ret (v := .tuple #[.agg #[.int .u16 v0, .int .u16 v2, .bool false, .slice A7 n7 c7], .int .i64 0]) (by simp [results, Try.results24, go_sem, pf]) rfl (by rw [HD.out]; exact ⟨A7, n7, c7, rfl, Of.mono s5, Sf.bel T8 (by omega)⟩)
theorem rudp_any (p : Pkt) (hp : p.Ok) (A1 : Option Addr) (n1 c1 : Nat) (A2 : Option Addr) (n2 c2 : Nat) (w : World) (k2 : Bs w A2 n2 c2 p.dat) :
    Calls Try.prog 24 #[(.agg #[.int .u8 (p).tos, .int .u16 (p).id, .bool (p).keep, .int .u8 (p).ttl, .int .u8 (p).proto, .int .u32 (p).src, .int .u32 (p).dst, .slice A1 n1 c1, .slice A2 n2 c2])] w (DgPost w (udD p) (udE p)) := by
  unfold udD
  rcases ud_ways p n2 k2.len with ⟨h0, h⟩ | ⟨h0, h1, h2, h3, h⟩
  · rw [if_neg h0]
    exact rudp_no p hp A1 n1 c1 A2 n2 c2 w k2 _ _ _ rfl rfl h
  · rw [if_pos h0, h0]
    exact rudp_ok p hp A1 n1 c1 A2 n2 c2 w k2 _ _ rfl rfl h1 h2 h3 h
end Go.Proofs.Ytjhpmeagopdaiaa

namespace Go.Proofs.Ytjhpmeagopdaiaa
open Go.RowKit
set_option linter.unusedVariables false
set_option linter.unusedSimpArgs false
set_option maxHeartbeats 4000000
set_option maxRecDepth 100000

structure Msg where
  ty : Int
  code : Int
  rest : Int
  dat : List UInt8
structure Msg.Ok (m : Msg) : Prop where
  ty : 0 ≤ m.ty ∧ m.ty ≤ 255
  code : 0 ≤ m.code ∧ m.code ≤ 255
  rest : 0 ≤ m.rest ∧ m.rest ≤ 4294967295
def zM : Msg := ⟨0, 0, 0, []⟩
def sameM (m n : Msg) : Bool := m.ty == n.ty && m.code == n.code && m.rest == n.rest && m.dat == n.dat
theorem sameM_self (m : Msg) : sameM m m = true := by simp [sameM]
def isEchoM (m : Msg) : Bool := (m.ty == 8 || m.ty == 0) && m.code == 0
theorem rmsame_any (m n : Msg) (A1 : Option Addr) (n1 c1 : Nat) (B1 : Option Addr) (m1 d1 : Nat) (w : World) (k1 : Bs w A1 n1 c1 m.dat) (j1 : Bs w B1 m1 d1 n.dat) :
    Calls Try.prog 29 #[(.agg #[.int .u8 (m).ty, .int .u8 (m).code, .int .u32 (m).rest, .slice A1 n1 c1]), (.agg #[.int .u8 (n).ty, .int .u8 (n).code, .int .u32 (n).rest, .slice B1 m1 d1])] w fun e w' => e = .returned (.bool (sameM m n)) ∧ Below w.heap.size w w' := by
  have x1 := fun o o' => cv ((k1.alloc o).alloc o')
  have y1 := fun o o' => cv ((j1.alloc o).alloc o')
  have s1 := str_beqS m.dat n.dat
  go_enter Try.func29, Try.ntmps29
  go_wp2_with fail
  all_goals go_ret
  all_goals refine ⟨?_, by (repeat (first | with_reducible exact Below.refl _ _ | with_reducible refine below_drew ?_ | with_reducible refine below_drewN ?_ _ | with_reducible refine below_alloc ?_ (Nat.le_refl _) _ | with_reducible refine Below.setCell ?_ (by first | exact Nat.le_refl _ | (simp only []; omega)) _ | with_reducible assumption))⟩
  all_goals simp_all [sameM]
theorem risecho_any (m : Msg) (A1 : Option Addr) (n1 c1 : Nat) (w : World) :
    Calls Try.prog 25 #[(.agg #[.int .u8 (m).ty, .int .u8 (m).code, .int .u32 (m).rest, .slice A1 n1 c1])] w fun e w' => e = .returned (.bool (isEchoM m)) ∧ Below w.heap.size w w' := by
  go_enter Try.func25, Try.ntmps25
  go_wp2_with fail
  all_goals go_ret
  all_goals refine ⟨?_, by (repeat (first | with_reducible exact Below.refl _ _ | with_reducible refine below_drew ?_ | with_reducible refine below_drewN ?_ _ | with_reducible refine below_alloc ?_ (Nat.le_refl _) _ | with_reducible refine Below.setCell ?_ (by first | exact Nat.le_refl _ | (simp only []; omega)) _ | with_reducible assumption))⟩
  all_goals simp_all [isEchoM]
theorem andNot8_tab : ∀ a : Fin 256, (bits .andNot .u8 (a.val : Int) 8 == 0) = ((a.val : Int) == 8 || (a.val : Int) == 0) := by decide +kernel
theorem andNot8 {x : Int} (h0 : 0 ≤ x) (h1 : x ≤ 255) : (bits .andNot .u8 x 8 == 0) = (x == 8 || x == 0) := by
  have h := andNot8_tab ⟨x.toNat, by omega⟩
  have e : ((x.toNat : Nat) : Int) = x := by omega
  simp only [e] at h
  exact h
theorem isecho_any (m : Msg) (hm : m.Ok) (A1 : Option Addr) (n1 c1 : Nat) (w : World) :
    Calls Try.prog 100 #[(.agg #[.int .u8 (m).ty, .int .u8 (m).code, .int .u32 (m).rest, .slice A1 n1 c1])] w fun e w' => e = .returned (.bool (isEchoM m)) ∧ Below w.heap.size w w' := by
  have hn := andNot8 hm.ty.1 hm.ty.2
  go_enter Try.func100, Try.ntmps100
  go_wp2_with fail
  all_goals go_ret
  all_goals refine ⟨?_, by (repeat (first | with_reducible exact Below.refl _ _ | with_reducible refine below_drew ?_ | with_reducible refine below_drewN ?_ _ | with_reducible refine below_alloc ?_ (Nat.le_refl _) _ | with_reducible refine Below.setCell ?_ (by first | exact Nat.le_refl _ | (simp only []; omega)) _ | with_reducible assumption))⟩
  all_goals simp_all [isEchoM]
end Go.Proofs.Ytjhpmeagopdaiaa

namespace Go.Proofs.Ytjhpmeagopdaiaa
open Go.RowKit
set_option linter.unusedVariables false
set_option linter.unusedSimpArgs false
set_option linter.unusedSimpArgs false
set_option maxHeartbeats 4000000
set_option maxRecDepth 100000

def icE (p : Pkt) : Int := if p.proto ≠ 1 then 12 else if (p.dat.length : Int) < 8 then 3 else if csum p.dat ≠ 0 then 5 else 0
def icM (p : Pkt) : Msg := if icE p = 0 then ⟨bt p.dat 0, bt p.dat 1, get32 p.dat 4, p.dat.drop 8⟩ else zM
theorem icM_ok (p : Pkt) : (icM p).Ok := by
  unfold icM; split
  · exact ⟨⟨bt_lo _ _, bt_hi _ _⟩, ⟨bt_lo _ _, bt_hi _ _⟩, ⟨get32_lo _ _, get32_hi _ _⟩⟩
  · exact ⟨⟨by decide, by decide⟩, ⟨by decide, by decide⟩, ⟨by decide, by decide⟩⟩
structure MsPost (w : World) (M : Msg) (E : Int) (e : Ending) (w' : World) : Prop where
  out : ∃ B m d, e = .returned (.tuple #[(.agg #[.int .u8 (M).ty, .int .u8 (M).code, .int .u32 (M).rest, .slice B m d]), .int .i64 E]) ∧ Own w' w.heap.size 5 B m d M.dat ∧ Below w.heap.size w w'
theorem msPost_no {w w' : World} {E : Int} (hB : Below w.heap.size w w') : MsPost w zM E (.returned (.tuple #[.agg #[.int .u8 0, .int .u8 0, .int .u32 0, .slice none 0 0], .int .i64 E])) w' :=
  ⟨none, 0, 0, rfl, own_nil _ _ _, hB⟩
theorem icmp_no (p : Pkt) (A1 : Option Addr) (n1 c1 : Nat) (A2 : Option Addr) (n2 c2 : Nat) (w : World) (k2 : Bs w A2 n2 c2 p.dat) (E : Int)
    (h : (E = 12 ∧ (p.proto != 1) = true) ∨ (E = 3 ∧ (p.proto != 1) = false ∧ (n2 : Int) < 8) ∨ (E = 5 ∧ (p.proto != 1) = false ∧ 8 ≤ (n2 : Int) ∧ (csum p.dat == 0) = false)) :
    Calls Try.prog 32 #[(.agg #[.int .u8 (p).tos, .int .u16 (p).id, .bool (p).keep, .int .u8 (p).ttl, .int .u8 (p).proto, .int .u32 (p).src, .int .u32 (p).dst, .slice A1 n1 c1, .slice A2 n2 c2])] w (MsPost w zM E) := by
  have b2 := k2.max
  obtain ⟨k, hk⟩ : ∃ k : Nat, w.heap.size = k := ⟨_, rfl⟩
  obtain ⟨w1, hw1⟩ : ∃ w1, (w.alloc (.cells #[.int .u8 (p).tos, .int .u16 (p).id, .bool (p).keep, .int .u8 (p).ttl, .int .u8 (p).proto, .int .u32 (p).src, .int .u32 (p).dst, .slice A1 n1 c1, .slice A2 n2 c2] 26)).alloc (.cells #[.int .u8 0, .int .u8 0, .int .u32 0, .slice none 0 0] 42) = w1 := ⟨_, rfl⟩
  have P1 : Blk w1 k #[.int .u8 (p).tos, .int .u16 (p).id, .bool (p).keep, .int .u8 (p).ttl, .int .u8 (p).proto, .int .u32 (p).src, .int .u32 (p).dst, .slice A1 n1 c1, .slice A2 n2 c2] 26 := by rw [← hw1]; exact (blk_new w _ _ k hk).alloc _
  have Z1 : Blk w1 (k + 1) #[.int .u8 0, .int .u8 0, .int .u32 0, .slice none 0 0] 42 := by rw [← hw1]; exact blk_new _ _ _ (k + 1) (by simp [hk])
  have R1 : Below w.heap.size w w1 := by rw [← hw1]; (repeat (first | with_reducible exact Below.refl _ _ | with_reducible refine below_drew ?_ | with_reducible refine below_drewN ?_ _ | with_reducible refine below_alloc ?_ (Nat.le_refl _) _ | with_reducible refine Below.setCell ?_ (by first | exact Nat.le_refl _ | (simp only []; omega)) _ | with_reducible assumption))
  have x2 := k2.below R1
  have pc := P1.cell
  have zc := Z1.cell
  obtain ⟨wf, hwf, Sf⟩ := store4 Z1 (.int .u8 0) (.int .u8 0) (.int .u32 0) (.slice none 0 0)
  have pf := Sf.blk.cell
  have Tf := Sf.bel R1 (by omega)
  rcases h with ⟨rfl, h1⟩ | ⟨rfl, h1, h2⟩ | ⟨rfl, h1, h2, h3⟩
  · go_enter Try.func32, Try.ntmps32
    go_wp2_with fail
    exact bodyPost_ret (by simp [results, Try.results32, go_sem, pf]) rfl (msPost_no Tf)
  · go_enter Try.func32, Try.ntmps32
    go_wp2_with fail
    exact bodyPost_ret (by simp [results, Try.results32, go_sem, pf]) rfl (msPost_no Tf)
  · go_enter Try.func32, Try.ntmps32
    clear hwf Sf pf Tf
    go_wp2_with (go_at_call 58; ((with_reducible refine (good_any A2 n2 c2 p.dat _ x2).mono ?_); rintro e w2 ⟨he2, hB2⟩); (try rw [h3] at he2); subst he2; have Z2 := Z1.below hB2; have zc2 := Z2.cell)
    obtain ⟨wf, hwf, Sf⟩ := store4 Z2 (.int .u8 0) (.int .u8 0) (.int .u32 0) (.slice none 0 0)
    rw [hwf]
    have pf := Sf.blk.cell
    exact bodyPost_ret (by simp [results, Try.results32, go_sem, pf]) rfl (msPost_no (Sf.bel (below_then R1 hB2) (by omega)))
theorem ricmp_no (p : Pkt) (A1 : Option Addr) (n1 c1 : Nat) (A2 : Option Addr) (n2 c2 : Nat) (w : World) (k2 : Bs w A2 n2 c2 p.dat) (hn2 : n2 ≤ 17592186044416) (E : Int)
    (h : (E = 12 ∧ (p.proto != 1) = true) ∨ (E = 3 ∧ (p.proto != 1) = false ∧ (n2 : Int) < 8) ∨ (E = 5 ∧ (p.proto != 1) = false ∧ 8 ≤ (n2 : Int) ∧ (csum p.dat == 0) = false)) :
    Calls Try.prog 16 #[(.agg #[.int .u8 (p).tos, .int .u16 (p).id, .bool (p).keep, .int .u8 (p).ttl, .int .u8 (p).proto, .int .u32 (p).src, .int .u32 (p).dst, .slice A1 n1 c1, .slice A2 n2 c2])] w (MsPost w zM E) := by
  have b2 := k2.max
  obtain ⟨k, hk⟩ : ∃ k : Nat, w.heap.size = k := ⟨_, rfl⟩
  obtain ⟨w1, hw1⟩ : ∃ w1, (w.alloc (.cells #[.int .u8 (p).tos, .int .u16 (p).id, .bool (p).keep, .int .u8 (p).ttl, .int .u8 (p).proto, .int .u32 (p).src, .int .u32 (p).dst, .slice A1 n1 c1, .slice A2 n2 c2] 26)).alloc (.cells #[.int .u8 0, .int .u8 0, .int .u32 0, .slice none 0 0] 42) = w1 := ⟨_, rfl⟩
  have P1 : Blk w1 k #[.int .u8 (p).tos, .int .u16 (p).id, .bool (p).keep, .int .u8 (p).ttl, .int .u8 (p).proto, .int .u32 (p).src, .int .u32 (p).dst, .slice A1 n1 c1, .slice A2 n2 c2] 26 := by rw [← hw1]; exact (blk_new w _ _ k hk).alloc _
  have Z1 : Blk w1 (k + 1) #[.int .u8 0, .int .u8 0, .int .u32 0, .slice none 0 0] 42 := by rw [← hw1]; exact blk_new _ _ _ (k + 1) (by simp [hk])
  have R1 : Below w.heap.size w w1 := by rw [← hw1]; (repeat (first | with_reducible exact Below.refl _ _ | with_reducible refine below_drew ?_ | with_reducible refine below_drewN ?_ _ | with_reducible refine below_alloc ?_ (Nat.le_refl _) _ | with_reducible refine Below.setCell ?_ (by first | exact Nat.le_refl _ | (simp only []; omega)) _ | with_reducible assumption))
  have x2 := k2.below R1
  have pc := P1.cell
  have zc := Z1.cell
  obtain ⟨wf, hwf, Sf⟩ := store4 Z1 (.int .u8 0) (.int .u8 0) (.int .u32 0) (.slice none 0 0)
  have pf := Sf.blk.cell
  have Tf := Sf.bel R1 (by omega)
  rcases h with ⟨rfl, h1⟩ | ⟨rfl, h1, h2⟩ | ⟨rfl, h1, h2, h3⟩
  · go_enter Try.func16, Try.ntmps16
    go_wp2_with fail
    exact bodyPost_ret (by simp [results, Try.results16, go_sem, pf]) rfl (msPost_no Tf)
  · go_enter Try.func16, Try.ntmps16
    go_wp2_with fail
    exact bodyPost_ret (by simp [results, Try.results16, go_sem, pf]) rfl (msPost_no Tf)
  · go_enter Try.func16, Try.ntmps16
    clear hwf Sf pf Tf
    go_wp2_with (go_at_call 40; ((with_reducible refine (rgood_any A2 n2 c2 p.dat hn2 _ x2).mono ?_); rintro e w2 ⟨he2, hB2⟩); (try rw [h3] at he2); subst he2; have Z2 := Z1.below hB2; have zc2 := Z2.cell)
    obtain ⟨wf, hwf, Sf⟩ := store4 Z2 (.int .u8 0) (.int .u8 0) (.int .u32 0) (.slice none 0 0)
    rw [hwf]
    have pf := Sf.blk.cell
    exact bodyPost_ret (by simp [results, Try.results16, go_sem, pf]) rfl (msPost_no (Sf.bel (below_then R1 hB2) (by omega)))
theorem icmp_ok (p : Pkt) (A1 : Option Addr) (n1 c1 : Nat) (A2 : Option Addr) (n2 c2 : Nat) (w : World) (k2 : Bs w A2 n2 c2 p.dat) 
    (h1 : (p.proto != 1) = false) (h2 : 8 ≤ (n2 : Int)) (h3 : (csum p.dat == 0) = true) :
    Calls Try.prog 32 #[(.agg #[.int .u8 (p).tos, .int .u16 (p).id, .bool (p).keep, .int .u8 (p).ttl, .int .u8 (p).proto, .int .u32 (p).src, .int .u32 (p).dst, .slice A1 n1 c1, .slice A2 n2 c2])] w (MsPost w ⟨bt p.dat 0, bt p.dat 1, get32 p.dat 4, p.dat.drop 8⟩ 0) := by
  have hlL : p.dat.take n2 = p.dat := List.take_of_length_le (by rw [k2.len]; exact Nat.le_refl _)
  obtain ⟨i8, hi8, -, hs8, -⟩ := info_parts info_u8
  have b2 := k2.max
  have hcap := k2.cap
  obtain ⟨b, off, rfl⟩ := k2.some_ (by omega)
  have hcut : ∀ W, (Instr.slice 24 (.slice (some ⟨b, off, none⟩) n2 c2) (some (.int .i64 8)) none none).run Try.prog W = _ := fun W => cut_l Try.underlying24 hi8 hs8 (some ⟨b, off, none⟩) n2 c2 .i64 8 (by omega) (by omega) W
  obtain ⟨A', n', c', eA, en, ec, hbD⟩ := k2.cutE (lo := 8) (hi := n2) (by omega) (Nat.le_refl _)
  simp only [show (8 : Int).toNat = 8 from rfl, eA, en, ec] at hcut
  rw [hlL] at hbD
  have hn' : n' ≤ n2 := by omega
  clear eA en ec hlL
  obtain ⟨k, hk⟩ : ∃ k : Nat, w.heap.size = k := ⟨_, rfl⟩
  obtain ⟨w1, hw1⟩ : ∃ w1, (w.alloc (.cells #[.int .u8 (p).tos, .int .u16 (p).id, .bool (p).keep, .int .u8 (p).ttl, .int .u8 (p).proto, .int .u32 (p).src, .int .u32 (p).dst, .slice A1 n1 c1, .slice (some ⟨b, off, none⟩) n2 c2] 26)).alloc (.cells #[.int .u8 0, .int .u8 0, .int .u32 0, .slice none 0 0] 42) = w1 := ⟨_, rfl⟩
  have P1 : Blk w1 k #[.int .u8 (p).tos, .int .u16 (p).id, .bool (p).keep, .int .u8 (p).ttl, .int .u8 (p).proto, .int .u32 (p).src, .int .u32 (p).dst, .slice A1 n1 c1, .slice (some ⟨b, off, none⟩) n2 c2] 26 := by rw [← hw1]; exact (blk_new w _ _ k hk).alloc _
  have Z1 : Blk w1 (k + 1) #[.int .u8 0, .int .u8 0, .int .u32 0, .slice none 0 0] 42 := by rw [← hw1]; exact blk_new _ _ _ (k + 1) (by simp [hk])
  have R1 : Below w.heap.size w w1 := by rw [← hw1]; (repeat (first | with_reducible exact Below.refl _ _ | with_reducible refine below_drew ?_ | with_reducible refine below_drewN ?_ _ | with_reducible refine below_alloc ?_ (Nat.le_refl _) _ | with_reducible refine Below.setCell ?_ (by first | exact Nat.le_refl _ | (simp only []; omega)) _ | with_reducible assumption))
  have x2 := k2.below R1
  have pc := P1.cell
  have zc := Z1.cell
  go_enter Try.func32, Try.ntmps32
  go_wp2_with (go_at_call 58; ((with_reducible refine (good_any (some ⟨b, off, none⟩) n2 c2 p.dat _ x2).mono ?_); rintro e w2 ⟨he2, hB2⟩); (try rw [h3] at he2); subst he2; have Z2 := Z1.below hB2; have zc2 := Z2.cell)
  have x3 := x2.below hB2
  have T2 := below_then R1 hB2
  have hD := hbD.below T2
  have s2 := T2.size
  have q0 : 0 < n2 := by omega
  have q0' : (0 : Int) < n2 := by omega
  have q1 : (1 : Int) < n2 := by omega
  refine region_txt 11 (by kernel_rfl) (by kernel_rfl) ?_; (iterate 11 (first | (apply ObsK.skip (by rfl)) | (apply ObsK.v (by rfl); (intro wo hT; (repeat (first | (intro v hv; (skip)) | (intro _ _ k; try have hcv := cv k))); (have bo := x3.below hT; have c0 := bo.at_ (j := 0) (by omega); rw [Nat.add_zero] at c0; have c1 := bo.at_ (j := 1) (by omega); have hsz : w2.heap.size ≤ wo.heap.size := hT.size); refine Goes.mk ?_; go_simp; first | exact goes_v | exact goes_b (by assumption) | (refine goes_enter ?_; first | (go_at_call 59; ((with_reducible refine (get32_any (some ⟨b, off, none⟩) n2 c2 p.dat 4 wo bo).mono ?_); rintro e w5 ⟨rfl, hD5⟩); exact ret_v hD5.bel) | (go_at_call 60; ((with_reducible refine (clone_any A' n' c' _ wo (hD.below hT)).mono ?_); rintro e w5 ⟨A9, c9, rfl, ho9, hB9⟩); exact ret_p (own_isW ho9 hsz) hB9)))) | (apply ObsK.b (by rfl); (intro wo hT; (repeat (first | (intro v hv; (skip)) | (intro _ _ k; try have hcv := cv k))); (have bo := x3.below hT; have c0 := bo.at_ (j := 0) (by omega); rw [Nat.add_zero] at c0; have c1 := bo.at_ (j := 1) (by omega); have hsz : w2.heap.size ≤ wo.heap.size := hT.size); refine Goes.mk ?_; go_simp; first | exact goes_v | exact goes_b (by assumption) | (refine goes_enter ?_; first | (go_at_call 59; ((with_reducible refine (get32_any (some ⟨b, off, none⟩) n2 c2 p.dat 4 wo bo).mono ?_); rintro e w5 ⟨rfl, hD5⟩); exact ret_v hD5.bel) | (go_at_call 60; ((with_reducible refine (clone_any A' n' c' _ wo (hD.below hT)).mono ?_); rintro e w5 ⟨A9, c9, rfl, ho9, hB9⟩); exact ret_p (own_isW ho9 hsz) hB9)))) | (apply ObsK.p (q := isW w2.heap.size _) (by rfl) st_isW; (intro wo hT; (repeat (first | (intro v hv; (skip)) | (intro _ _ k; try have hcv := cv k))); (have bo := x3.below hT; have c0 := bo.at_ (j := 0) (by omega); rw [Nat.add_zero] at c0; have c1 := bo.at_ (j := 1) (by omega); have hsz : w2.heap.size ≤ wo.heap.size := hT.size); refine Goes.mk ?_; go_simp; first | exact goes_v | exact goes_b (by assumption) | (refine goes_enter ?_; first | (go_at_call 59; ((with_reducible refine (get32_any (some ⟨b, off, none⟩) n2 c2 p.dat 4 wo bo).mono ?_); rintro e w5 ⟨rfl, hD5⟩); exact ret_v hD5.bel) | (go_at_call 60; ((with_reducible refine (clone_any A' n' c' _ wo (hD.below hT)).mono ?_); rintro e w5 ⟨A9, c9, rfl, ho9, hB9⟩); exact ret_p (own_isW ho9 hsz) hB9)))))); refine ObsK.nil ?_; intro wz hBz; simp only [finOn, List.drop_succ_cons, List.drop_zero, List.drop_nil]
  rintro v9 ⟨A9, n9, c9, rfl, O9⟩
  go_simp
  have Z3 := Z2.below hBz
  have zc3 := Z3.cell
  obtain ⟨wf, hwf, Sf⟩ := store4 Z3 (.int .u8 (bt p.dat 0)) (.int .u8 (bt p.dat 1)) (.int .u32 (get32 p.dat 4)) (.slice A9 n9 c9)
  have pf := Sf.blk.cell
  have Tf := Sf.bel (below_then T2 hBz) (by omega)
  have zl := Z2.lt
  have Of := Sf.own O9 (fun a e => by have := O9.ge a e; omega)
  go_wp2_with fail
  refine bodyPost_ret (v := .tuple #[.agg #[.int .u8 (bt p.dat 0), .int .u8 (bt p.dat 1), .int .u32 (get32 p.dat 4), .slice A9 n9 c9], .int .i64 0]) (by simp [results, Try.results32, go_sem, pf]) rfl ⟨A9, n9, c9, rfl, Of.mono s2, Tf⟩
theorem ricmp_ok (p : Pkt) (A1 : Option Addr) (n1 c1 : Nat) (A2 : Option Addr) (n2 c2 : Nat) (w : World) (k2 : Bs w A2 n2 c2 p.dat) (hn2 : n2 ≤ 17592186044416)
    (h1 : (p.proto != 1) = false) (h2 : 8 ≤ (n2 : Int)) (h3 : (csum p.dat == 0) = true) :
    Calls Try.prog 16 #[(.agg #[.int .u8 (p).tos, .int .u16 (p).id, .bool (p).keep, .int .u8 (p).ttl, .int .u8 (p).proto, .int .u32 (p).src, .int .u32 (p).dst, .slice A1 n1 c1, .slice A2 n2 c2])] w (MsPost w ⟨bt p.dat 0, bt p.dat 1, get32 p.dat 4, p.dat.drop 8⟩ 0) := by
  have hlL : p.dat.take n2 = p.dat := List.take_of_length_le (by rw [k2.len]; exact Nat.le_refl _)
  obtain ⟨i8, hi8, -, hs8, -⟩ := info_parts info_u8
  have b2 := k2.max
  have hcap := k2.cap
  obtain ⟨b, off, rfl⟩ := k2.some_ (by omega)
  have hcut : ∀ W, (Instr.slice 24 (.slice (some ⟨b, off, none⟩) n2 c2) (some (.int .i64 8)) none none).run Try.prog W = _ := fun W => cut_l Try.underlying24 hi8 hs8 (some ⟨b, off, none⟩) n2 c2 .i64 8 (by omega) (by omega) W
  obtain ⟨A', n', c', eA, en, ec, hbD⟩ := k2.cutE (lo := 8) (hi := n2) (by omega) (Nat.le_refl _)
  simp only [show (8 : Int).toNat = 8 from rfl, eA, en, ec] at hcut
  rw [hlL] at hbD
  have hn' : n' ≤ n2 := by omega
  clear eA en ec hlL
  obtain ⟨k, hk⟩ : ∃ k : Nat, w.heap.size = k := ⟨_, rfl⟩
  obtain ⟨w1, hw1⟩ : ∃ w1, (w.alloc (.cells #[.int .u8 (p).tos, .int .u16 (p).id, .bool (p).keep, .int .u8 (p).ttl, .int .u8 (p).proto, .int .u32 (p).src, .int .u32 (p).dst, .slice A1 n1 c1, .slice (some ⟨b, off, none⟩) n2 c2] 26)).alloc (.cells #[.int .u8 0, .int .u8 0, .int .u32 0, .slice none 0 0] 42) = w1 := ⟨_, rfl⟩
  have P1 : Blk w1 k #[.int .u8 (p).tos, .int .u16 (p).id, .bool (p).keep, .int .u8 (p).ttl, .int .u8 (p).proto, .int .u32 (p).src, .int .u32 (p).dst, .slice A1 n1 c1, .slice (some ⟨b, off, none⟩) n2 c2] 26 := by rw [← hw1]; exact (blk_new w _ _ k hk).alloc _
  have Z1 : Blk w1 (k + 1) #[.int .u8 0, .int .u8 0, .int .u32 0, .slice none 0 0] 42 := by rw [← hw1]; exact blk_new _ _ _ (k + 1) (by simp [hk])
  have R1 : Below w.heap.size w w1 := by rw [← hw1]; (repeat (first | with_reducible exact Below.refl _ _ | with_reducible refine below_drew ?_ | with_reducible refine below_drewN ?_ _ | with_reducible refine below_alloc ?_ (Nat.le_refl _) _ | with_reducible refine Below.setCell ?_ (by first | exact Nat.le_refl _ | (simp only []; omega)) _ | with_reducible assumption))
  have x2 := k2.below R1
  have pc := P1.cell
  have zc := Z1.cell
  go_enter Try.func16, Try.ntmps16
  go_wp2_with (go_at_call 40; ((with_reducible refine (rgood_any (some ⟨b, off, none⟩) n2 c2 p.dat hn2 _ x2).mono ?_); rintro e w2 ⟨he2, hB2⟩); (try rw [h3] at he2); subst he2; have Z2 := Z1.below hB2; have zc2 := Z2.cell)
  have x3 := x2.below hB2
  have T2 := below_then R1 hB2
  have hD := hbD.below T2
  have s2 := T2.size
  have q0 : 0 < n2 := by omega
  have q0' : (0 : Int) < n2 := by omega
  have q1 : (1 : Int) < n2 := by omega
  refine region_txt 10 (by kernel_rfl) (by kernel_rfl) ?_; (iterate 10 (first | (apply ObsK.skip (by rfl)) | (apply ObsK.v (by rfl); (intro wo hT; (repeat (first | (intro v hv; (skip)) | (intro _ _ k; try have hcv := cv k))); (have bo := x3.below hT; have c0 := bo.at_ (j := 0) (by omega); rw [Nat.add_zero] at c0; have c1 := bo.at_ (j := 1) (by omega); have hsz : w2.heap.size ≤ wo.heap.size := hT.size); refine Goes.mk ?_; go_simp; first | exact goes_v | exact goes_b (by assumption) | exact goes_new hsz | (refine goes_enter ?_; first | (go_at_call 41; ((with_reducible refine (rget32_any (some ⟨b, off, none⟩) n2 c2 p.dat 4 wo bo).mono ?_); rintro e w5 ⟨rfl, hD5⟩); exact ret_v hD5.bel)))) | (apply ObsK.b (by rfl); (intro wo hT; (repeat (first | (intro v hv; (skip)) | (intro _ _ k; try have hcv := cv k))); (have bo := x3.below hT; have c0 := bo.at_ (j := 0) (by omega); rw [Nat.add_zero] at c0; have c1 := bo.at_ (j := 1) (by omega); have hsz : w2.heap.size ≤ wo.heap.size := hT.size); refine Goes.mk ?_; go_simp; first | exact goes_v | exact goes_b (by assumption) | exact goes_new hsz | (refine goes_enter ?_; first | (go_at_call 41; ((with_reducible refine (rget32_any (some ⟨b, off, none⟩) n2 c2 p.dat 4 wo bo).mono ?_); rintro e w5 ⟨rfl, hD5⟩); exact ret_v hD5.bel)))) | (apply ObsK.p (q := isNew w2.heap.size _ _) (by rfl) st_isNew; (intro wo hT; (repeat (first | (intro v hv; (skip)) | (intro _ _ k; try have hcv := cv k))); (have bo := x3.below hT; have c0 := bo.at_ (j := 0) (by omega); rw [Nat.add_zero] at c0; have c1 := bo.at_ (j := 1) (by omega); have hsz : w2.heap.size ≤ wo.heap.size := hT.size); refine Goes.mk ?_; go_simp; first | exact goes_v | exact goes_b (by assumption) | exact goes_new hsz | (refine goes_enter ?_; first | (go_at_call 41; ((with_reducible refine (rget32_any (some ⟨b, off, none⟩) n2 c2 p.dat 4 wo bo).mono ?_); rintro e w5 ⟨rfl, hD5⟩); exact ret_v hD5.bel)))))); refine ObsK.nil ?_; intro wz hBz; simp only [finOn, List.drop_succ_cons, List.drop_zero, List.drop_nil]
  rintro vp ⟨g, rfl, gw, G⟩
  go_simp
  obtain ⟨w4, hw4, S4⟩ := store4 G (.int .u8 (bt p.dat 0)) (.int .u8 (bt p.dat 1)) (.int .u32 (get32 p.dat 4)) (.slice none 0 0)
  have zl2 := Z2.lt
  have k2l : w.heap.size ≤ w2.heap.size := s2
  have gc0 := G.cell
  have G4 := S4.blk
  have T4 := S4.bel (below_then T2 hBz) (by omega)
  have Z4 := S4.other (by omega) (Z2.below hBz)
  have D4 := hbD.below T4
  go_wp2_with fail
  clear hw4 S4 gc0 G hBz
  refine region_txt 4 (by kernel_rfl) (by kernel_rfl) ?_; (iterate 4 (first | (apply ObsK.skip (by rfl)) | (apply ObsK.v (by rfl); (intro wo hT; (repeat (first | (intro _ _ k; try have hcv := cv k))); (have gc := (G4.below hT).cell); refine Goes.mk ?_; go_simp; first | exact goes_v | exact goes_b (by assumption) | (refine goes_enter ?_; first | fail))) | (apply ObsK.b (by rfl); (intro wo hT; (repeat (first | (intro _ _ k; try have hcv := cv k))); (have gc := (G4.below hT).cell); refine Goes.mk ?_; go_simp; first | exact goes_v | exact goes_b (by assumption) | (refine goes_enter ?_; first | fail))))); refine ObsK.nil ?_; intro wz hBz; simp only [finOn, List.drop_succ_cons, List.drop_zero, List.drop_nil]
  go_simp
  have G5 := G4.below hBz
  have Z5 := Z4.below hBz
  have T5 := below_then T4 hBz
  have D5 := D4.below hBz
  have gl := G4.lt
  have gs := hBz.size
  go_wp2_with (first
    | (at_builtin; refine wpList_append_bs (w0 := wz) _ rfl _ _ _ rfl wz.heap.size 5 Try.underlying24 info_u8 none 0 0 [] rfl (own_nil _ _ _) A' n' c' _ rfl D5 (Below.refl _ _) (by omega) (by first | exact Nat.le_refl _ | exact Below.size (Below.refl _ _) | omega | (simp <;> omega)) ?_; intro A7 n7 c7 w7 ho7 hB7 _ hz7; have u7 : n7 = n' := (by have := ho7.len; have := D5.len; simp at *; omega); subst u7; replace ho7 : Own w7 wz.heap.size 5 A7 n7 c7 (p.dat.drop 8) := ho7; have G7 := G5.below hB7; have gc7 := G7.cell; (obtain ⟨w8, hw8, S8⟩ := store1 G7 3 (.slice A7 n7 c7)); simp only [List.setIfInBounds_toArray, List.set_cons_zero, List.set_cons_succ] at S8; have gc8 := S8.blk.cell; have Z8 := S8.other (by omega) (Z5.below hB7); have zc8 := Z8.cell; have T8 := S8.bel (below_then T5 hB7) (by omega); have O8 := S8.own ho7 (fun a e => by have := ho7.ge a e; omega)))
  obtain ⟨wf, hwf, Sf⟩ := store4 Z8 (.int .u8 (bt p.dat 0)) (.int .u8 (bt p.dat 1)) (.int .u32 (get32 p.dat 4)) (.slice A7 n7 c7)
  rw [hwf]
  have pf := Sf.blk.cell
  have Of := Sf.own O8 (fun a e => by have := ho7.ge a e; omega)
  have s5 := T5.size
  refine bodyPost_ret (v := .tuple #[.agg #[.int .u8 (bt p.dat 0), .int .u8 (bt p.dat 1), .int .u32 (get32 p.dat 4), .slice A7 n7 c7], .int .i64 0]) (by simp [results, Try.results16, go_sem, pf]) rfl ⟨A7, n7, c7, rfl, Of.mono s5, Sf.bel T8 (by omega)⟩
theorem icE_12 {p : Pkt} (h : p.proto ≠ 1) : icE p = 12 := by unfold icE; rw [if_pos h]
theorem icE_3 {p : Pkt} (h : p.proto = 1) (h2 : (p.dat.length : Int) < 8) : icE p = 3 := by unfold icE; rw [if_neg (by simp [h]), if_pos h2]
theorem icE_5 {p : Pkt} (h : p.proto = 1) (h2 : 8 ≤ (p.dat.length : Int)) (h3 : csum p.dat ≠ 0) : icE p = 5 := by unfold icE; rw [if_neg (by simp [h]), if_neg (by omega), if_pos h3]
theorem icE_0 {p : Pkt} (h : p.proto = 1) (h2 : 8 ≤ (p.dat.length : Int)) (h3 : csum p.dat = 0) : icE p = 0 := by unfold icE; rw [if_neg (by simp [h]), if_neg (by omega), if_neg (by simp [h3])]
theorem icmp_any (p : Pkt) (A1 : Option Addr) (n1 c1 : Nat) (A2 : Option Addr) (n2 c2 : Nat) (w : World) (k2 : Bs w A2 n2 c2 p.dat) :
    Calls Try.prog 32 #[(.agg #[.int .u8 (p).tos, .int .u16 (p).id, .bool (p).keep, .int .u8 (p).ttl, .int .u8 (p).proto, .int .u32 (p).src, .int .u32 (p).dst, .slice A1 n1 c1, .slice A2 n2 c2])] w (MsPost w (icM p) (icE p)) := by
  have l2 := k2.len
  unfold icM
  by_cases h1 : p.proto = 1
  · by_cases h2 : (n2 : Int) < 8
    · rw [icE_3 h1 (by omega), if_neg (by decide)]
      exact icmp_no p A1 n1 c1 A2 n2 c2 w k2 3 (.inr (.inl ⟨rfl, by simp [h1], h2⟩))
    · by_cases h3 : csum p.dat = 0
      · rw [icE_0 h1 (by omega) h3, if_pos rfl]
        exact icmp_ok p A1 n1 c1 A2 n2 c2 w k2 (by simp [h1]) (by omega) (by simp [h3])
      · rw [icE_5 h1 (by omega) h3, if_neg (by decide)]
        exact icmp_no p A1 n1 c1 A2 n2 c2 w k2 5 (.inr (.inr ⟨rfl, by simp [h1], by omega, by simpa using h3⟩))
  · rw [icE_12 h1, if_neg (by decide)]
    exact icmp_no p A1 n1 c1 A2 n2 c2 w k2 12 (.inl ⟨rfl, by simpa using h1⟩)
theorem ricmp_any (p : Pkt) (A1 : Option Addr) (n1 c1 : Nat) (A2 : Option Addr) (n2 c2 : Nat) (w : World) (k2 : Bs w A2 n2 c2 p.dat) (hn2 : n2 ≤ 17592186044416) :
    Calls Try.prog 16 #[(.agg #[.int .u8 (p).tos, .int .u16 (p).id, .bool (p).keep, .int .u8 (p).ttl, .int .u8 (p).proto, .int .u32 (p).src, .int .u32 (p).dst, .slice A1 n1 c1, .slice A2 n2 c2])] w (MsPost w (icM p) (icE p)) := by
  have l2 := k2.len
  unfold icM
  by_cases h1 : p.proto = 1
  · by_cases h2 : (n2 : Int) < 8
    · rw [icE_3 h1 (by omega), if_neg (by decide)]
      exact ricmp_no p A1 n1 c1 A2 n2 c2 w k2 hn2 3 (.inr (.inl ⟨rfl, by simp [h1], h2⟩))
    · by_cases h3 : csum p.dat = 0
      · rw [icE_0 h1 (by omega) h3, if_pos rfl]
        exact ricmp_ok p A1 n1 c1 A2 n2 c2 w k2 hn2 (by simp [h1]) (by omega) (by simp [h3])
      · rw [icE_5 h1 (by omega) h3, if_neg (by decide)]
        exact ricmp_no p A1 n1 c1 A2 n2 c2 w k2 hn2 5 (.inr (.inr ⟨rfl, by simp [h1], by omega, by simpa using h3⟩))
  · rw [icE_12 h1, if_neg (by decide)]
    exact ricmp_no p A1 n1 c1 A2 n2 c2 w k2 hn2 12 (.inl ⟨rfl, by simpa using h1⟩)
end Go.Proofs.Ytjhpmeagopdaiaa

namespace Go.Proofs.Ytjhpmeagopdaiaa
open Go.RowKit
set_option linter.unusedVariables false
set_option linter.unusedSimpArgs false
set_option maxHeartbeats 4000000
set_option maxRecDepth 100000

structure Frm where
  call : Int
  hs : Bool
  ha : Bool
  seq : Int
  ack : Int
  dat : List UInt8
structure Frm.Ok (f : Frm) : Prop where
  call : 0 ≤ f.call ∧ f.call ≤ 65535
  seq : 0 ≤ f.seq ∧ f.seq ≤ 4294967295
  ack : 0 ≤ f.ack ∧ f.ack ≤ 4294967295
def zF : Frm := ⟨0, false, false, 0, 0, []⟩
theorem zF_ok : zF.Ok := ⟨by decide, by decide, by decide⟩
def sameF (f g : Frm) : Bool := f.call == g.call && f.hs == g.hs && f.ha == g.ha && f.seq == g.seq && f.ack == g.ack && f.dat == g.dat
theorem sameF_self (f : Frm) : sameF f f = true := by simp [sameF]
theorem sameF_iff (f g : Frm) : sameF f g = true ↔ f = g := by
  unfold sameF
  cases f; cases g
  simp only [Bool.and_eq_true, beq_iff_eq, Frm.mk.injEq]
  constructor
  · rintro ⟨⟨⟨⟨⟨a, b⟩, c⟩, d⟩, e⟩, f⟩; exact ⟨a, b, c, d, e, f⟩
  · rintro ⟨a, b, c, d, e, f⟩; exact ⟨⟨⟨⟨⟨a, b⟩, c⟩, d⟩, e⟩, f⟩
theorem rgsame_any (f g : Frm) (A1 : Option Addr) (n1 c1 : Nat) (B1 : Option Addr) (m1 d1 : Nat) (w : World) (k1 : Bs w A1 n1 c1 f.dat) (j1 : Bs w B1 m1 d1 g.dat) :
    Calls Try.prog 30 #[(.agg #[.int .u16 (f).call, .bool (f).hs, .bool (f).ha, .int .u32 (f).seq, .int .u32 (f).ack, .slice A1 n1 c1]), (.agg #[.int .u16 (g).call, .bool (g).hs, .bool (g).ha, .int .u32 (g).seq, .int .u32 (g).ack, .slice B1 m1 d1])] w fun e w' => e = .returned (.bool (sameF f g)) ∧ Below w.heap.size w w' := by
  have x1 := fun o o' => cv ((k1.alloc o).alloc o')
  have y1 := fun o o' => cv ((j1.alloc o).alloc o')
  have s1 := str_beqS f.dat g.dat
  go_enter Try.func30, Try.ntmps30
  go_wp2_with fail
  all_goals go_ret
  all_goals refine ⟨?_, by (repeat (first | with_reducible exact Below.refl _ _ | with_reducible refine below_drew ?_ | with_reducible refine below_drewN ?_ _ | with_reducible refine below_alloc ?_ (Nat.le_refl _) _ | with_reducible refine Below.setCell ?_ (by first | exact Nat.le_refl _ | (simp only []; omega)) _ | with_reducible assumption))⟩
  all_goals simp_all [sameF]
def b0F (s : Bool) : Int := if s then 48 else 32
def b1F (a : Bool) : Int := if a then 129 else 1
def grB (s a : Bool) : List UInt8 := [ub (b0F s), ub (b1F a), ub 136, ub 11]
theorem begin_any (s a : Bool) (w : World) :
    Calls Try.prog 87 #[.bool s, .bool a] w fun e w' => e = .returned (.agg #[.int .u8 (b0F s), .int .u8 (b1F a), .int .u8 136, .int .u8 11]) ∧ Below w.heap.size w w' := by
  have h1 : bits .or .u8 32 16 = 48 := by decide
  have h2 : bits .or .u8 1 128 = 129 := by decide
  cases s <;> cases a
  all_goals go_enter Try.func87, Try.ntmps87
  all_goals go_wp2_with fail
  all_goals first
    | exact bodyPost_ret (v := .agg #[.int .u8 32, .int .u8 1, .int .u8 136, .int .u8 11]) (by simp [results, Try.results87, go_sem]) rfl ⟨rfl, by (repeat (first | with_reducible exact Below.refl _ _ | with_reducible refine below_drew ?_ | with_reducible refine below_drewN ?_ _ | with_reducible refine below_alloc ?_ (Nat.le_refl _) _ | with_reducible refine Below.setCell ?_ (by first | exact Nat.le_refl _ | (simp only []; omega)) _ | with_reducible assumption))⟩
    | exact bodyPost_ret (v := .agg #[.int .u8 48, .int .u8 1, .int .u8 136, .int .u8 11]) (by simp [results, Try.results87, go_sem]) rfl ⟨rfl, by (repeat (first | with_reducible exact Below.refl _ _ | with_reducible refine below_drew ?_ | with_reducible refine below_drewN ?_ _ | with_reducible refine below_alloc ?_ (Nat.le_refl _) _ | with_reducible refine Below.setCell ?_ (by first | exact Nat.le_refl _ | (simp only []; omega)) _ | with_reducible assumption))⟩
    | exact bodyPost_ret (v := .agg #[.int .u8 32, .int .u8 129, .int .u8 136, .int .u8 11]) (by simp [results, Try.results87, go_sem]) rfl ⟨rfl, by (repeat (first | with_reducible exact Below.refl _ _ | with_reducible refine below_drew ?_ | with_reducible refine below_drewN ?_ _ | with_reducible refine below_alloc ?_ (Nat.le_refl _) _ | with_reducible refine Below.setCell ?_ (by first | exact Nat.le_refl _ | (simp only []; omega)) _ | with_reducible assumption))⟩
    | exact bodyPost_ret (v := .agg #[.int .u8 48, .int .u8 129, .int .u8 136, .int .u8 11]) (by simp [results, Try.results87, go_sem]) rfl ⟨rfl, by (repeat (first | with_reducible exact Below.refl _ _ | with_reducible refine below_drew ?_ | with_reducible refine below_drewN ?_ _ | with_reducible refine below_alloc ?_ (Nat.le_refl _) _ | with_reducible refine Below.setCell ?_ (by first | exact Nat.le_refl _ | (simp only []; omega)) _ | with_reducible assumption))⟩
end Go.Proofs.Ytjhpmeagopdaiaa

namespace Go.Proofs.Ytjhpmeagopdaiaa
open Go.RowKit
set_option linter.unusedVariables false
set_option linter.unusedSimpArgs false
set_option linter.unusedSimpArgs false
set_option maxHeartbeats 4000000
set_option maxRecDepth 100000

def mL (m : Msg) : List UInt8 := [ub m.ty, ub m.code, 0, 0] ++ four m.rest ++ m.dat
def mS (m : Msg) : List UInt8 := put16 (mL m) 2 (csum (mL m))
theorem mL_len (m : Msg) : (mL m).length = 8 + m.dat.length := by unfold mL four; simp; omega
theorem mS_len (m : Msg) : (mS m).length = 8 + m.dat.length := by unfold mS; rw [put16_length, mL_len]
theorem head8 (m : Msg) : put32 [ub m.ty, ub m.code, 0, 0, 0, 0, 0, 0] 4 m.rest = [ub m.ty, ub m.code, 0, 0] ++ four m.rest := by
  simp [put32, putK, four]
theorem lit8 {e : TypeId} {x y : Int} (x0 : 0 ≤ x) (x1 : x ≤ 255) (y0 : 0 ≤ y) (y1 : y ≤ 255) (W : World) : Own (W.alloc (.cells #[.int .u8 x, .int .u8 y, .int .u8 0, .int .u8 0, .int .u8 0, .int .u8 0, .int .u8 0, .int .u8 0] e)) W.heap.size e (some ⟨W.heap.size, 0, none⟩) 8 8 [ub x, ub y, 0, 0, 0, 0, 0, 0] := by
  have h : (cu [ub x, ub y, 0, 0, 0, 0, 0, 0]).toArray = #[.int .u8 x, .int .u8 y, .int .u8 0, .int .u8 0, .int .u8 0, .int .u8 0, .int .u8 0, .int .u8 0] := by
    simp [cu, ub_val]; omega
  rw [← h]; exact own_lit W _ e _ 8 rfl (by omega) (Nat.le_refl _)
theorem isCat2 {W0 : World} {g n1 c1 n2 c2 cc : Nat} {A1 A2 : Option Addr} {l1 l2 : List UInt8} {T : TypeId} (G : Blk W0 g #[.slice A1 n1 c1, .slice A2 n2 c2] T) (k1 : Bs W0 A1 n1 c1 l1) (k2 : Bs W0 A2 n2 c2 l2) (h : n1 + n2 ≤ 200000000000000) :
    isCat (.slice (some ⟨g, 0, none⟩) 2 cc) (l1 ++ l2) W0 := by
  intro W hB
  have G' := G.below hB
  have gc := G'.cell.1
  have := concat_any g 2 cc (fun j => if j = 0 then A1 else A2) (fun j => if j = 0 then n1 else n2) (fun j => if j = 0 then c1 else c2) (fun j => if j = 0 then l1 else l2) (by omega) W G'.lt (fun j hj => by
      rw [gc]
      have : j = 0 ∨ j = 1 := by omega
      rcases this with rfl | rfl <;> rfl) (fun j hj => by
      have : j = 0 ∨ j = 1 := by omega
      rcases this with rfl | rfl
      · exact k1.below hB
      · exact k2.below hB) (by simp [catN]; omega)
  exact this
theorem bicmp_ok (p : Pkt) (A1 : Option Addr) (n1 c1 : Nat) (A2 : Option Addr) (n2 c2 : Nat) (m : Msg) (hm : m.Ok) (B1 : Option Addr) (m1 d1 : Nat) (w : World) (k1 : Bs w A1 n1 c1 p.opt) (j1 : Bs w B1 m1 d1 m.dat)
    (hE : wiE p (8 + m1) = 0) (hm1 : m1 ≤ 140737488400000) :
    Calls Try.prog 38 #[(.agg #[.int .u8 (p).tos, .int .u16 (p).id, .bool (p).keep, .int .u8 (p).ttl, .int .u8 (p).proto, .int .u32 (p).src, .int .u32 (p).dst, .slice A1 n1 c1, .slice A2 n2 c2]), (.agg #[.int .u8 (m).ty, .int .u8 (m).code, .int .u32 (m).rest, .slice B1 m1 d1])] w (WiPost w { p with proto := 1, dat := mS m } 0) := by
  have b1 := j1.max
  have jl := j1.len
  obtain ⟨⟨t0, t1⟩, ⟨u0, u1⟩, ⟨r0, r1⟩⟩ := hm
  have L8 := fun W => lit8 (e := 5) t0 t1 u0 u1 W
  have H8 := Lib.hid (head8 m)
  have hcl : ([ub m.ty, ub m.code, 0, 0] ++ four m.rest ++ m.dat).length = 8 + m1 := by rw [show [ub m.ty, ub m.code, 0, 0] ++ four m.rest ++ m.dat = mL m from rfl, mL_len, jl]
  have HC := Lib.hid hcl
  have HS : Hid (put16 (mL m) 2 (csum (mL m)) = mS m) := rfl
  have hw2 : ∀ W lv, isCat lv (mL m) W → Bs W A1 n1 c1 p.opt → Calls Try.prog 68 #[(.agg #[.int .u8 (p).tos, .int .u16 (p).id, .bool (p).keep, .int .u8 (p).ttl, .int .u8 (p).proto, .int .u32 (p).src, .int .u32 (p).dst, .slice A1 n1 c1, .slice A2 n2 c2]), .int .u8 1, lv] W (WiPost W { p with proto := 1, dat := mL m } 0) := fun W lv hc kk => by
    have hh := with_any p A1 n1 c1 A2 n2 c2 1 lv (mL m) W kk hc (by rw [mL_len]; omega)
    unfold withP at hh
    rw [mL_len, jl, hE, if_pos rfl] at hh
    exact hh
  clear hcl jl hE
  obtain ⟨k, hk⟩ : ∃ k : Nat, w.heap.size = k := ⟨_, rfl⟩
  obtain ⟨w1, hw1⟩ : ∃ w1, ((w.alloc (.cells #[.int .u8 (p).tos, .int .u16 (p).id, .bool (p).keep, .int .u8 (p).ttl, .int .u8 (p).proto, .int .u32 (p).src, .int .u32 (p).dst, .slice A1 n1 c1, .slice A2 n2 c2] 26)).alloc (.cells #[.int .u8 (m).ty, .int .u8 (m).code, .int .u32 (m).rest, .slice B1 m1 d1] 42)).alloc (.cells #[.int .u8 0, .int .u16 0, .bool false, .int .u8 0, .int .u8 0, .int .u32 0, .int .u32 0, .slice none 0 0, .slice none 0 0] 26) = w1 := ⟨_, rfl⟩
  have P1 : Blk w1 k #[.int .u8 (p).tos, .int .u16 (p).id, .bool (p).keep, .int .u8 (p).ttl, .int .u8 (p).proto, .int .u32 (p).src, .int .u32 (p).dst, .slice A1 n1 c1, .slice A2 n2 c2] 26 := by rw [← hw1]; exact ((blk_new w _ _ k hk).alloc _).alloc _
  have M1 : Blk w1 (k + 1) #[.int .u8 (m).ty, .int .u8 (m).code, .int .u32 (m).rest, .slice B1 m1 d1] 42 := by rw [← hw1]; exact (blk_new _ _ _ (k + 1) (by simp [hk])).alloc _
  have Z1 : Blk w1 (k + 1 + 1) #[.int .u8 0, .int .u16 0, .bool false, .int .u8 0, .int .u8 0, .int .u32 0, .int .u32 0, .slice none 0 0, .slice none 0 0] 26 := by rw [← hw1]; exact blk_new _ _ _ (k + 1 + 1) (by simp [hk])
  have R1 : Below w.heap.size w w1 := by rw [← hw1]; (repeat (first | with_reducible exact Below.refl _ _ | with_reducible refine below_drew ?_ | with_reducible refine below_drewN ?_ _ | with_reducible refine below_alloc ?_ (Nat.le_refl _) _ | with_reducible refine Below.setCell ?_ (by first | exact Nat.le_refl _ | (simp only []; omega)) _ | with_reducible assumption))
  have x1 := k1.below R1
  have y1 := j1.below R1
  have pc := P1.cell
  have mc := M1.cell
  have kl1 := P1.lt
  have ml1 := M1.lt
  go_enter Try.func38, Try.ntmps38
  go_wp2_with (first
    | (go_at_call 34; ((with_reducible refine (put32_any _ 8 8 _ 4 m.rest r0 r1 _ (L8 w1).bs).mono ?_); rintro e w2 ⟨A6, c6, rfl, ho6, hB2⟩); rw [H8.out] at ho6; have T2 := below_then (below_alloc (Below.refl w1.heap.size w1) (Nat.le_refl _) _) hB2; have pc2 := (P1.below T2).cell; have mc2 := (M1.below T2).cell; have pl2 := (P1.below T2).lt; have ml2 := (M1.below T2).lt; have y2 := y1.below T2; have o6 := ho6.bs; (obtain ⟨w3, hw3⟩ : ∃ w3, w2.alloc (.cells #[.slice A6 8 c6, .slice B1 m1 d1] 24) = w3 := ⟨_, rfl⟩); have G3 : Blk w3 w2.heap.size #[.slice A6 8 c6, .slice B1 m1 d1] 24 := (by rw [← hw3]; exact blk_new w2 _ _ _ rfl); have V3 : Below w2.heap.size w2 w3 := (by rw [← hw3]; (repeat (first | with_reducible exact Below.refl _ _ | with_reducible refine below_drew ?_ | with_reducible refine below_drewN ?_ _ | with_reducible refine below_alloc ?_ (Nat.le_refl _) _ | with_reducible refine Below.setCell ?_ (by first | exact Nat.le_refl _ | (simp only []; omega)) _ | with_reducible assumption))); have T3 := below_then T2 V3; have hcat := isCat2 G3 (o6.below V3) (y2.below V3) (cc := 2) (by omega))
    | (go_at_call 68; ((with_reducible refine (hw2 w3 _ hcat (x1.below T3)).mono ?_); rintro e w4 ⟨⟨C1, e1, f1, C2, e2, f2, rfl, O1, O2, hB4⟩⟩); have T4 := below_then T3 hB4; have Z4 := Z1.below T4; (obtain ⟨w5, hw5⟩ : ∃ w5, w4.alloc (.cells #[.int .u8 p.tos, .int .u16 p.id, .bool p.keep, .int .u8 p.ttl, .int .u8 1, .int .u32 p.src, .int .u32 p.dst, .slice C1 e1 f1, .slice C2 e2 f2] 26) = w5 := ⟨_, rfl⟩); have Q5 : Blk w5 w4.heap.size #[.int .u8 p.tos, .int .u16 p.id, .bool p.keep, .int .u8 p.ttl, .int .u8 1, .int .u32 p.src, .int .u32 p.dst, .slice C1 e1 f1, .slice C2 e2 f2] 26 := (by rw [← hw5]; exact blk_new w4 _ _ _ rfl); have V5 : Below w4.heap.size w4 w5 := (by rw [← hw5]; (repeat (first | with_reducible exact Below.refl _ _ | with_reducible refine below_drew ?_ | with_reducible refine below_drewN ?_ _ | with_reducible refine below_alloc ?_ (Nat.le_refl _) _ | with_reducible refine Below.setCell ?_ (by first | exact Nat.le_refl _ | (simp only []; omega)) _ | with_reducible assumption))); have q5 := Q5.cell))
  have O1' := O1.below V5
  have O2' := O2.below V5
  have T5 := below_then T4 V5
  have Z5 := Z4.below V5
  have zl := Z4.lt
  have r1s := R1.size
  have t3s := T3.size
  have k2l := Z1.lt
  refine region_txt 7 (by kernel_rfl) (by kernel_rfl) ?_; (iterate 7 (first | (apply ObsK.skip (by rfl)) | (apply ObsK.v (by rfl); (intro wo hT; (repeat (first | (intro v hv; (skip)) | (intro _ _ k; try have hcv := cv k))); (have qc := (Q5.below hT).cell; have bo := O2'.bs.below hT; have hsz : w5.heap.size ≤ wo.heap.size := hT.size); refine Goes.mk ?_; go_simp; first | exact goes_v | exact goes_b (by assumption) | (refine goes_enter ?_; first | (go_at_call 36; ((with_reducible refine (sum_any C2 e2 f2 (mL m) wo bo).mono ?_); rintro e w9 ⟨rfl, hB9⟩); exact ret_v hB9) | (go_at_call 35; ((with_reducible refine (put16_any C2 e2 f2 (mL m) 2 _ (csum_lo _) (csum_hi _) wo bo).mono ?_); rintro e w9 ⟨A9, c9, rfl, ho9, hB9⟩); exact ret_p (own_isW ho9 hsz) hB9)))) | (apply ObsK.b (by rfl); (intro wo hT; (repeat (first | (intro v hv; (skip)) | (intro _ _ k; try have hcv := cv k))); (have qc := (Q5.below hT).cell; have bo := O2'.bs.below hT; have hsz : w5.heap.size ≤ wo.heap.size := hT.size); refine Goes.mk ?_; go_simp; first | exact goes_v | exact goes_b (by assumption) | (refine goes_enter ?_; first | (go_at_call 36; ((with_reducible refine (sum_any C2 e2 f2 (mL m) wo bo).mono ?_); rintro e w9 ⟨rfl, hB9⟩); exact ret_v hB9) | (go_at_call 35; ((with_reducible refine (put16_any C2 e2 f2 (mL m) 2 _ (csum_lo _) (csum_hi _) wo bo).mono ?_); rintro e w9 ⟨A9, c9, rfl, ho9, hB9⟩); exact ret_p (own_isW ho9 hsz) hB9)))) | (apply ObsK.p (q := isW w5.heap.size _) (by rfl) st_isW; (intro wo hT; (repeat (first | (intro v hv; (skip)) | (intro _ _ k; try have hcv := cv k))); (have qc := (Q5.below hT).cell; have bo := O2'.bs.below hT; have hsz : w5.heap.size ≤ wo.heap.size := hT.size); refine Goes.mk ?_; go_simp; first | exact goes_v | exact goes_b (by assumption) | (refine goes_enter ?_; first | (go_at_call 36; ((with_reducible refine (sum_any C2 e2 f2 (mL m) wo bo).mono ?_); rintro e w9 ⟨rfl, hB9⟩); exact ret_v hB9) | (go_at_call 35; ((with_reducible refine (put16_any C2 e2 f2 (mL m) 2 _ (csum_lo _) (csum_hi _) wo bo).mono ?_); rintro e w9 ⟨A9, c9, rfl, ho9, hB9⟩); exact ret_p (own_isW ho9 hsz) hB9)))))); refine ObsK.nil ?_; intro wz hBz; simp only [finOn, List.drop_succ_cons, List.drop_zero, List.drop_nil]
  rintro v9 ⟨A9, n9, c9, rfl, O9⟩
  go_simp
  have Q6 := Q5.below hBz
  have q6 := Q6.cell
  have q5l := Q5.lt
  have Z6 := Z5.below hBz
  obtain ⟨w7, hw7, S7⟩ := store1 Q6 8 (.slice A9 n9 c9)
  simp only [List.setIfInBounds_toArray, List.set_cons_zero, List.set_cons_succ] at S7
  have q7 := S7.blk.cell
  have Z7 := S7.other (by omega) Z6
  have z7 := Z7.cell
  have T7 := S7.bel (below_then R1 (below_then T5 hBz)) (by omega)
  have O7 := S7.own (O1'.below hBz) (fun a e => by
    have h1 := O1.ge a e
    have h2 : a.block < w4.heap.size := by
      rcases O1.row.2 with ⟨hv, _⟩ | ⟨g, cap, cur, hv, _, hg, _⟩
      · injection hv with hv; rw [hv] at e; cases e
      · injection hv with hv; rw [hv] at e; injection e with e; subst e; exact (Array.getElem?_eq_some_iff.1 hg).1
    omega)
  have D7 := S7.own O9 (fun a e => by have := O9.ge a e; omega)
  go_wp2_with fail
  obtain ⟨wf, hwf, Sf⟩ := store9 Z7 (.int .u8 p.tos) (.int .u16 p.id) (.bool p.keep) (.int .u8 p.ttl) (.int .u8 1) (.int .u32 p.src) (.int .u32 p.dst) (.slice C1 e1 f1) (.slice A9 n9 c9)
  rw [hwf]
  have pf := Sf.blk.cell
  have Of := Sf.own O7 (fun a e => by have := O1.ge a e; omega)
  have Df := Sf.own D7 (fun a e => by have := O9.ge a e; omega)
  refine bodyPost_ret (v := .tuple #[.agg #[.int .u8 p.tos, .int .u16 p.id, .bool p.keep, .int .u8 p.ttl, .int .u8 1, .int .u32 p.src, .int .u32 p.dst, .slice C1 e1 f1, .slice A9 n9 c9], .int .i64 0]) (by simp [results, Try.results38, go_sem, pf]) rfl ⟨⟨C1, e1, f1, A9, n9, c9, rfl, Of.mono (by omega), ?_, Sf.bel T7 (by omega)⟩⟩
  exact Df.mono (by omega)
theorem bicmp_no (p : Pkt) (A1 : Option Addr) (n1 c1 : Nat) (A2 : Option Addr) (n2 c2 : Nat) (m : Msg) (hm : m.Ok) (B1 : Option Addr) (m1 d1 : Nat) (w : World) (k1 : Bs w A1 n1 c1 p.opt) (j1 : Bs w B1 m1 d1 m.dat)
    (E : Int) (hE : wiE p (8 + m1) = E) (h0 : E ≠ 0) (hm1 : m1 ≤ 140737488400000) :
    Calls Try.prog 38 #[(.agg #[.int .u8 (p).tos, .int .u16 (p).id, .bool (p).keep, .int .u8 (p).ttl, .int .u8 (p).proto, .int .u32 (p).src, .int .u32 (p).dst, .slice A1 n1 c1, .slice A2 n2 c2]), (.agg #[.int .u8 (m).ty, .int .u8 (m).code, .int .u32 (m).rest, .slice B1 m1 d1])] w (WiPost w zP E) := by
  have b1 := j1.max
  have jl := j1.len
  obtain ⟨⟨t0, t1⟩, ⟨u0, u1⟩, ⟨r0, r1⟩⟩ := hm
  have L8 := fun W => lit8 (e := 5) t0 t1 u0 u1 W
  have H8 := Lib.hid (head8 m)
  have hw2 : ∀ W lv, isCat lv (mL m) W → Bs W A1 n1 c1 p.opt → Calls Try.prog 68 #[(.agg #[.int .u8 (p).tos, .int .u16 (p).id, .bool (p).keep, .int .u8 (p).ttl, .int .u8 (p).proto, .int .u32 (p).src, .int .u32 (p).dst, .slice A1 n1 c1, .slice A2 n2 c2]), .int .u8 1, lv] W (fun e w' => ∃ B1 m1 d1 B2 m2 d2, e = .returned (.tuple #[.agg #[.int .u8 0, .int .u16 0, .bool false, .int .u8 0, .int .u8 0, .int .u32 0, .int .u32 0, .slice B1 m1 d1, .slice B2 m2 d2], .int .i64 E]) ∧ Own w' W.heap.size 5 B1 m1 d1 [] ∧ Own w' W.heap.size 5 B2 m2 d2 [] ∧ Below W.heap.size W w') := fun W lv hc kk => by
    have hh := with_any p A1 n1 c1 A2 n2 c2 1 lv (mL m) W kk hc (by rw [mL_len]; omega)
    unfold withP at hh
    rw [mL_len, jl, hE, if_neg h0] at hh
    exact hh.mono fun e w' hq => hq.out
  have e0 : (E == 0) = false := by simpa using h0
  clear jl hE h0
  obtain ⟨k, hk⟩ : ∃ k : Nat, w.heap.size = k := ⟨_, rfl⟩
  obtain ⟨w1, hw1⟩ : ∃ w1, ((w.alloc (.cells #[.int .u8 (p).tos, .int .u16 (p).id, .bool (p).keep, .int .u8 (p).ttl, .int .u8 (p).proto, .int .u32 (p).src, .int .u32 (p).dst, .slice A1 n1 c1, .slice A2 n2 c2] 26)).alloc (.cells #[.int .u8 (m).ty, .int .u8 (m).code, .int .u32 (m).rest, .slice B1 m1 d1] 42)).alloc (.cells #[.int .u8 0, .int .u16 0, .bool false, .int .u8 0, .int .u8 0, .int .u32 0, .int .u32 0, .slice none 0 0, .slice none 0 0] 26) = w1 := ⟨_, rfl⟩
  have P1 : Blk w1 k #[.int .u8 (p).tos, .int .u16 (p).id, .bool (p).keep, .int .u8 (p).ttl, .int .u8 (p).proto, .int .u32 (p).src, .int .u32 (p).dst, .slice A1 n1 c1, .slice A2 n2 c2] 26 := by rw [← hw1]; exact ((blk_new w _ _ k hk).alloc _).alloc _
  have M1 : Blk w1 (k + 1) #[.int .u8 (m).ty, .int .u8 (m).code, .int .u32 (m).rest, .slice B1 m1 d1] 42 := by rw [← hw1]; exact (blk_new _ _ _ (k + 1) (by simp [hk])).alloc _
  have Z1 : Blk w1 (k + 1 + 1) #[.int .u8 0, .int .u16 0, .bool false, .int .u8 0, .int .u8 0, .int .u32 0, .int .u32 0, .slice none 0 0, .slice none 0 0] 26 := by rw [← hw1]; exact blk_new _ _ _ (k + 1 + 1) (by simp [hk])
  have R1 : Below w.heap.size w w1 := by rw [← hw1]; (repeat (first | with_reducible exact Below.refl _ _ | with_reducible refine below_drew ?_ | with_reducible refine below_drewN ?_ _ | with_reducible refine below_alloc ?_ (Nat.le_refl _) _ | with_reducible refine Below.setCell ?_ (by first | exact Nat.le_refl _ | (simp only []; omega)) _ | with_reducible assumption))
  have x1 := k1.below R1
  have y1 := j1.below R1
  have pc := P1.cell
  have mc := M1.cell
  have kl1 := P1.lt
  have ml1 := M1.lt
  go_enter Try.func38, Try.ntmps38
  go_wp2_with (first
    | (go_at_call 34; ((with_reducible refine (put32_any _ 8 8 _ 4 m.rest r0 r1 _ (L8 w1).bs).mono ?_); rintro e w2 ⟨A6, c6, rfl, ho6, hB2⟩); rw [H8.out] at ho6; have T2 := below_then (below_alloc (Below.refl w1.heap.size w1) (Nat.le_refl _) _) hB2; have pc2 := (P1.below T2).cell; have mc2 := (M1.below T2).cell; have pl2 := (P1.below T2).lt; have ml2 := (M1.below T2).lt; have y2 := y1.below T2; have o6 := ho6.bs; (obtain ⟨w3, hw3⟩ : ∃ w3, w2.alloc (.cells #[.slice A6 8 c6, .slice B1 m1 d1] 24) = w3 := ⟨_, rfl⟩); have G3 : Blk w3 w2.heap.size #[.slice A6 8 c6, .slice B1 m1 d1] 24 := (by rw [← hw3]; exact blk_new w2 _ _ _ rfl); have V3 : Below w2.heap.size w2 w3 := (by rw [← hw3]; (repeat (first | with_reducible exact Below.refl _ _ | with_reducible refine below_drew ?_ | with_reducible refine below_drewN ?_ _ | with_reducible refine below_alloc ?_ (Nat.le_refl _) _ | with_reducible refine Below.setCell ?_ (by first | exact Nat.le_refl _ | (simp only []; omega)) _ | with_reducible assumption))); have T3 := below_then T2 V3; have hcat := isCat2 G3 (o6.below V3) (y2.below V3) (cc := 2) (by omega))
    | (go_at_call 68; ((with_reducible refine (hw2 w3 _ hcat (x1.below T3)).mono ?_); rintro e w4 ⟨C1, e1, f1, C2, e2, f2, rfl, O1, O2, hB4⟩); have T4 := below_then T3 hB4; have Z4 := Z1.below T4; (obtain ⟨w5, hw5⟩ : ∃ w5, w4.alloc (.cells #[.int .u8 0, .int .u16 0, .bool false, .int .u8 0, .int .u8 0, .int .u32 0, .int .u32 0, .slice C1 e1 f1, .slice C2 e2 f2] 26) = w5 := ⟨_, rfl⟩); have Q5 : Blk w5 w4.heap.size #[.int .u8 0, .int .u16 0, .bool false, .int .u8 0, .int .u8 0, .int .u32 0, .int .u32 0, .slice C1 e1 f1, .slice C2 e2 f2] 26 := (by rw [← hw5]; exact blk_new w4 _ _ _ rfl); have V5 : Below w4.heap.size w4 w5 := (by rw [← hw5]; (repeat (first | with_reducible exact Below.refl _ _ | with_reducible refine below_drew ?_ | with_reducible refine below_drewN ?_ _ | with_reducible refine below_alloc ?_ (Nat.le_refl _) _ | with_reducible refine Below.setCell ?_ (by first | exact Nat.le_refl _ | (simp only []; omega)) _ | with_reducible assumption))); have q5 := Q5.cell; have Z5 := Z4.below V5; have z5 := Z5.cell))
  obtain ⟨wf, hwf, Sf⟩ := store9 Z5 (.int .u8 0) (.int .u16 0) (.bool false) (.int .u8 0) (.int .u8 0) (.int .u32 0) (.int .u32 0) (.slice C1 e1 f1) (.slice C2 e2 f2)
  rw [hwf]
  have pf := Sf.blk.cell
  have k2l := Z1.lt
  have t3s := T3.size
  have r1s := R1.size
  have Of := Sf.own (O1.below V5) (fun a e => by have := O1.ge a e; omega)
  have Df := Sf.own (O2.below V5) (fun a e => by have := O2.ge a e; omega)
  refine bodyPost_ret (v := .tuple #[.agg #[.int .u8 0, .int .u16 0, .bool false, .int .u8 0, .int .u8 0, .int .u32 0, .int .u32 0, .slice C1 e1 f1, .slice C2 e2 f2], .int .i64 E]) (by simp [results, Try.results38, go_sem, pf]) rfl ⟨⟨C1, e1, f1, C2, e2, f2, rfl, Of.mono (by omega), Df.mono (by omega), Sf.bel (below_then R1 (below_then T4 V5)) (by omega)⟩⟩
theorem bicmp_any (p : Pkt) (A1 : Option Addr) (n1 c1 : Nat) (A2 : Option Addr) (n2 c2 : Nat) (m : Msg) (hm : m.Ok) (B1 : Option Addr) (m1 d1 : Nat) (w : World) (k1 : Bs w A1 n1 c1 p.opt) (j1 : Bs w B1 m1 d1 m.dat) (hm1 : m1 ≤ 140737488400000) :
    Calls Try.prog 38 #[(.agg #[.int .u8 (p).tos, .int .u16 (p).id, .bool (p).keep, .int .u8 (p).ttl, .int .u8 (p).proto, .int .u32 (p).src, .int .u32 (p).dst, .slice A1 n1 c1, .slice A2 n2 c2]), (.agg #[.int .u8 (m).ty, .int .u8 (m).code, .int .u32 (m).rest, .slice B1 m1 d1])] w (WiPost w (withP p 1 (mS m)) (wiE p (8 + m.dat.length))) := by
  unfold withP
  rw [mS_len, j1.len]
  by_cases h : wiE p (8 + m1) = 0
  · rw [h, if_pos rfl]
    exact bicmp_ok p A1 n1 c1 A2 n2 c2 m hm B1 m1 d1 w k1 j1 h hm1
  · rw [if_neg h]
    exact bicmp_no p A1 n1 c1 A2 n2 c2 m hm B1 m1 d1 w k1 j1 _ rfl h hm1
end Go.Proofs.Ytjhpmeagopdaiaa

namespace Go.Proofs.Ytjhpmeagopdaiaa
open Go.RowKit
set_option linter.unusedVariables false
set_option linter.unusedSimpArgs false
set_option maxHeartbeats 4000000
set_option maxRecDepth 100000

def gH (f : Frm) : List UInt8 := grB f.hs f.ha ++ two ((f.dat.length : Int) % 65536) ++ two f.call ++ (if f.hs then four f.seq else []) ++ (if f.ha then four f.ack else [])
def gL (f : Frm) : List UInt8 := gH f ++ f.dat
def gN (f : Frm) : Nat := 8 + (if f.hs then 4 else 0) + (if f.ha then 4 else 0) + f.dat.length
theorem gL_len (f : Frm) : (gL f).length = gN f := by
  unfold gL gH gN grB two four
  cases f.hs <;> cases f.ha <;> simp <;> omega
def gBad (f : Frm) : Bool := (!f.hs && f.seq != 0) || (!f.ha && f.ack != 0)
def bgE (p : Pkt) (f : Frm) : Int := if gBad f then 4 else wiE p (gN f)
def bgP (p : Pkt) (f : Frm) : Pkt := if gBad f then zP else withP p 47 (gL f)
theorem app_first (w : World) (g : Nat) (a b : Int) (a0 : 0 ≤ a) (a1 : a ≤ 255) (b0 : 0 ≤ b) (b1 : b ≤ 255) (G : Blk w g #[.int .u8 a, .int .u8 b, .int .u8 136, .int .u8 11] 126) :
    ∃ A c w', (Builtin.append_ #[24, 3] 24 #[.slice (some ⟨g, 0, none⟩) 4 4, .int .i64 4]).run Try.prog w = .ok (.slice A 8 c) w' ∧ Own w' w.heap.size 5 A 8 c ([ub a, ub b, ub 136, ub 11] ++ [0, 0, 0, 0]) ∧ Below w.heap.size w w' := by
  obtain ⟨i8, hi8, hz8, hs8, hb8⟩ := info_parts info_u8
  have gc := G.cell.1
  have hold : (Builtin.firstCells i8.size 4 (.slice (some ⟨g, 0, none⟩) 4 4)).run Try.prog w.drew = .ok [Value.int .u8 a, .int .u8 b, .int .u8 136, .int .u8 11].toArray w.drew := by
    refine run_firstCells_some (P := Try.prog) w.drew i8.size 4 ⟨g, 0, none⟩ 4 4 [.int .u8 a, .int .u8 b, .int .u8 136, .int .u8 11] (by rw [hs8]; rfl) fun j u hj => ?_
    have hc : w.drew.cell? ((⟨g, 0, none⟩ : Addr).add j) = w.cell? ⟨g, j, none⟩ := by
      have : (⟨g, 0, none⟩ : Addr).add j = ⟨g, j, none⟩ := by unfold Addr.add; split <;> simp_all
      rw [this]; rfl
    rw [hc, gc]
    simpa using hj
  have hr := Lib.run_append_grow_zeros (P := Try.prog) w 24 3 24 5 i8 (.int .u8 0) .i64 .i64 Try.underlying24 Try.underlying3 hi8 hz8 (some ⟨g, 0, none⟩) 4 4 _ hold 4 (by omega) (by omega) (by omega) (by omega) (by omega) (growslice_fits_wide (by omega) (by rw [hb8]; omega))
  have hge : 8 ≤ grownCap w 8 4 5 := grownCap_ge w 8 4 5
  have hcu : ([Value.int .u8 a, .int .u8 b, .int .u8 136, .int .u8 11] ++ [.int .u8 0, .int .u8 0, .int .u8 0, .int .u8 0]) = cu ([ub a, ub b, ub 136, ub 11] ++ [0, 0, 0, 0]) := by
    simp [cu, ub_val]; omega
  refine ⟨_, _, _, hr, ⟨rfl, by omega, ⟨by rw [cu_length]; rfl, .inr ⟨w.heap.size, _, _, rfl, Nat.le_refl _, heap_alloc_new w.drew _, hge, grownCap_le_maxLen w (4 + 4) 4 5 (by simp only [maxLen]; omega), ?_, ?_⟩⟩⟩, (Below.drew (Below.refl _ w)).alloc (Nat.le_refl _) _⟩
  · simp [Array.size_append, size_zeroCells, Value.cells]; omega
  · rw [← hcu]
    have hz4 : Builtin.zeroCells (Value.int .u8 0).cells 4 = #[.int .u8 0, .int .u8 0, .int .u8 0, .int .u8 0] := by
      apply Array.ext'
      simp [Builtin.zeroCells, Value.cells, Nat.mod_one, Array.toList_range, List.range_succ]
    simp only [hz4, Array.toList_append, List.append_assoc]
    rfl
theorem b0F_bd (s : Bool) : 0 ≤ b0F s ∧ b0F s ≤ 255 := by cases s <;> decide
theorem b1F_bd (s : Bool) : 0 ≤ b1F s ∧ b1F s ≤ 255 := by cases s <;> decide
theorem bg_bad' (p : Pkt) (A1 : Option Addr) (n1 c1 : Nat) (A2 : Option Addr) (n2 c2 : Nat) (call : Int) (hs ha : Bool) (seq ack : Int) (dat : List UInt8) (B1 : Option Addr) (m1 d1 : Nat) (w : World) (k1 : Bs w A1 n1 c1 p.opt) (j1 : Bs w B1 m1 d1 dat)
    (h : (hs = false ∧ (seq != 0) = true) ∨ ((hs = true ∨ (seq != 0) = false) ∧ ha = false ∧ (ack != 0) = true)) :
    Calls Try.prog 49 #[(.agg #[.int .u8 (p).tos, .int .u16 (p).id, .bool (p).keep, .int .u8 (p).ttl, .int .u8 (p).proto, .int .u32 (p).src, .int .u32 (p).dst, .slice A1 n1 c1, .slice A2 n2 c2]), .agg #[.int .u16 call, .bool hs, .bool ha, .int .u32 seq, .int .u32 ack, .slice B1 m1 d1]] w (WiPost w zP 4) := by
  obtain ⟨k, hk⟩ : ∃ k : Nat, w.heap.size = k := ⟨_, rfl⟩
  obtain ⟨w1, hw1⟩ : ∃ w1, ((w.alloc (.cells #[.int .u8 (p).tos, .int .u16 (p).id, .bool (p).keep, .int .u8 (p).ttl, .int .u8 (p).proto, .int .u32 (p).src, .int .u32 (p).dst, .slice A1 n1 c1, .slice A2 n2 c2] 26)).alloc (.cells #[.int .u16 call, .bool hs, .bool ha, .int .u32 seq, .int .u32 ack, .slice B1 m1 d1] 63)).alloc (.cells #[.int .u8 0, .int .u16 0, .bool false, .int .u8 0, .int .u8 0, .int .u32 0, .int .u32 0, .slice none 0 0, .slice none 0 0] 26) = w1 := ⟨_, rfl⟩
  have P1 : Blk w1 k #[.int .u8 (p).tos, .int .u16 (p).id, .bool (p).keep, .int .u8 (p).ttl, .int .u8 (p).proto, .int .u32 (p).src, .int .u32 (p).dst, .slice A1 n1 c1, .slice A2 n2 c2] 26 := by rw [← hw1]; exact ((blk_new w _ _ k hk).alloc _).alloc _
  have F1 : Blk w1 (k + 1) #[.int .u16 call, .bool hs, .bool ha, .int .u32 seq, .int .u32 ack, .slice B1 m1 d1] 63 := by rw [← hw1]; exact (blk_new _ _ _ (k + 1) (by simp [hk])).alloc _
  have Z1 : Blk w1 (k + 1 + 1) #[.int .u8 0, .int .u16 0, .bool false, .int .u8 0, .int .u8 0, .int .u32 0, .int .u32 0, .slice none 0 0, .slice none 0 0] 26 := by rw [← hw1]; exact blk_new _ _ _ (k + 1 + 1) (by simp [hk])
  have R1 : Below w.heap.size w w1 := by rw [← hw1]; (repeat (first | with_reducible exact Below.refl _ _ | with_reducible refine below_drew ?_ | with_reducible refine below_drewN ?_ _ | with_reducible refine below_alloc ?_ (Nat.le_refl _) _ | with_reducible refine Below.setCell ?_ (by first | exact Nat.le_refl _ | (simp only []; omega)) _ | with_reducible assumption))
  have x1 := k1.below R1
  have y1 := j1.below R1
  have pc := P1.cell
  have mc := F1.cell
  have zc := Z1.cell
  have kl1 := P1.lt
  have ml1 := F1.lt
  obtain ⟨wf, hwf, Sf⟩ := store9 Z1 (.int .u8 0) (.int .u16 0) (.bool false) (.int .u8 0) (.int .u8 0) (.int .u32 0) (.int .u32 0) (.slice none 0 0) (.slice none 0 0)
  have pf := Sf.blk.cell
  have Tf := Sf.bel R1 (by omega)
  have h0 : hs = false ∨ hs = true := by cases hs <;> simp
  rcases h with ⟨h1, h2⟩ | ⟨h1 | h1, h2, h3⟩
  · subst h1
    go_enter Try.func49, Try.ntmps49
    go_wp2_with fail
    exact bodyPost_ret (by simp [results, Try.results49, go_sem, pf]) rfl (wiPost_no Tf)
  · subst h1 h2
    go_enter Try.func49, Try.ntmps49
    go_wp2_with fail
    exact bodyPost_ret (by simp [results, Try.results49, go_sem, pf]) rfl (wiPost_no Tf)
  · subst h2
    rcases h0 with h0 | h0
    all_goals subst h0
    all_goals go_enter Try.func49, Try.ntmps49
    all_goals go_wp2_with fail
    all_goals exact bodyPost_ret (by simp [results, Try.results49, go_sem, pf]) rfl (wiPost_no Tf)
theorem gBad_iff {f : Frm} (h : gBad f = true) : (f.hs = false ∧ (f.seq != 0) = true) ∨ ((f.hs = true ∨ (f.seq != 0) = false) ∧ f.ha = false ∧ (f.ack != 0) = true) := by
  unfold gBad at h
  revert h
  cases f.hs <;> cases f.ha <;> cases (f.seq != 0) <;> cases (f.ack != 0) <;> simp
theorem bg_bad (p : Pkt) (A1 : Option Addr) (n1 c1 : Nat) (A2 : Option Addr) (n2 c2 : Nat) (f : Frm) (B1 : Option Addr) (m1 d1 : Nat) (w : World) (k1 : Bs w A1 n1 c1 p.opt) (j1 : Bs w B1 m1 d1 f.dat) (h : gBad f = true) :
    Calls Try.prog 49 #[(.agg #[.int .u8 (p).tos, .int .u16 (p).id, .bool (p).keep, .int .u8 (p).ttl, .int .u8 (p).proto, .int .u32 (p).src, .int .u32 (p).dst, .slice A1 n1 c1, .slice A2 n2 c2]), (.agg #[.int .u16 (f).call, .bool (f).hs, .bool (f).ha, .int .u32 (f).seq, .int .u32 (f).ack, .slice B1 m1 d1])] w (WiPost w zP 4) :=
  bg_bad' p A1 n1 c1 A2 n2 c2 f.call f.hs f.ha f.seq f.ack f.dat B1 m1 d1 w k1 j1 (gBad_iff h)
end Go.Proofs.Ytjhpmeagopdaiaa

namespace Go.Proofs.Ytjhpmeagopdaiaa
open Go.RowKit
set_option linter.unusedVariables false
set_option linter.unusedSimpArgs false
set_option linter.unusedSimpArgs false
set_option maxHeartbeats 4000000
set_option maxRecDepth 100000

theorem bg_ok00 (p : Pkt) (A1 : Option Addr) (n1 c1 : Nat) (A2 : Option Addr) (n2 c2 : Nat) (call : Int) (hca : 0 ≤ call ∧ call ≤ 65535) (seq ack : Int) (hse : 0 ≤ seq ∧ seq ≤ 4294967295) (hak : 0 ≤ ack ∧ ack ≤ 4294967295) (hsq : (seq != 0) = false) (hac : (ack != 0) = false) (dat : List UInt8) (B1 : Option Addr) (m1 d1 : Nat) (w : World) (k1 : Bs w A1 n1 c1 p.opt) (j1 : Bs w B1 m1 d1 dat)
    (Q : Pkt) (E : Int) (hw2 : ∀ W lv, isCat lv ((grB false false ++ two ((m1 : Int) % 65536) ++ two call) ++ dat) W → Bs W A1 n1 c1 p.opt → Calls Try.prog 68 #[(.agg #[.int .u8 (p).tos, .int .u16 (p).id, .bool (p).keep, .int .u8 (p).ttl, .int .u8 (p).proto, .int .u32 (p).src, .int .u32 (p).dst, .slice A1 n1 c1, .slice A2 n2 c2]), .int .u8 47, lv] W (WiPost W Q E)) (hm1 : m1 ≤ 140737488400000) :
    Calls Try.prog 49 #[(.agg #[.int .u8 (p).tos, .int .u16 (p).id, .bool (p).keep, .int .u8 (p).ttl, .int .u8 (p).proto, .int .u32 (p).src, .int .u32 (p).dst, .slice A1 n1 c1, .slice A2 n2 c2]), .agg #[.int .u16 call, .bool false, .bool false, .int .u32 seq, .int .u32 ack, .slice B1 m1 d1]] w (WiPost w Q E) := by
  have b1 := j1.max
  obtain ⟨ca0, ca1⟩ := hca
  obtain ⟨se0, se1⟩ := hse
  obtain ⟨ak0, ak1⟩ := hak
  obtain ⟨z, hz⟩ : ∃ z : Int, (m1 : Int) % 65536 = z := ⟨_, rfl⟩
  have z0 : 0 ≤ z := by omega
  have z1 : z ≤ 65535 := by omega
  have hzw : IntKind.u16.wrap (m1 : Int) = z := by rw [← hz]; simp [IntKind.wrap, IntKind.signed, IntKind.bits]
  rw [hz] at hw2
  have H1 : Hid (put16 ([ub (b0F false), ub (b1F false), ub 136, ub 11] ++ [0, 0, 0, 0]) 4 z = grB false false ++ two z ++ [0, 0]) := by unfold Hid; simp [put16, putK, two, grB]
  have H2 : Hid (put16 (grB false false ++ two z ++ [0, 0]) 6 call = grB false false ++ two z ++ two call) := by unfold Hid; simp [put16, putK, two, grB]
  have hl4 : (cu [0, 0, 0, 0]).toArray = #[.int .u8 0, .int .u8 0, .int .u8 0, .int .u8 0] := rfl
  obtain ⟨k, hk⟩ : ∃ k : Nat, w.heap.size = k := ⟨_, rfl⟩
  obtain ⟨w1, hw1⟩ : ∃ w1, ((w.alloc (.cells #[.int .u8 (p).tos, .int .u16 (p).id, .bool (p).keep, .int .u8 (p).ttl, .int .u8 (p).proto, .int .u32 (p).src, .int .u32 (p).dst, .slice A1 n1 c1, .slice A2 n2 c2] 26)).alloc (.cells #[.int .u16 call, .bool false, .bool false, .int .u32 seq, .int .u32 ack, .slice B1 m1 d1] 63)).alloc (.cells #[.int .u8 0, .int .u16 0, .bool false, .int .u8 0, .int .u8 0, .int .u32 0, .int .u32 0, .slice none 0 0, .slice none 0 0] 26) = w1 := ⟨_, rfl⟩
  have P1 : Blk w1 k #[.int .u8 (p).tos, .int .u16 (p).id, .bool (p).keep, .int .u8 (p).ttl, .int .u8 (p).proto, .int .u32 (p).src, .int .u32 (p).dst, .slice A1 n1 c1, .slice A2 n2 c2] 26 := by rw [← hw1]; exact ((blk_new w _ _ k hk).alloc _).alloc _
  have F1 : Blk w1 (k + 1) #[.int .u16 call, .bool false, .bool false, .int .u32 seq, .int .u32 ack, .slice B1 m1 d1] 63 := by rw [← hw1]; exact (blk_new _ _ _ (k + 1) (by simp [hk])).alloc _
  have Z1 : Blk w1 (k + 1 + 1) #[.int .u8 0, .int .u16 0, .bool false, .int .u8 0, .int .u8 0, .int .u32 0, .int .u32 0, .slice none 0 0, .slice none 0 0] 26 := by rw [← hw1]; exact blk_new _ _ _ (k + 1 + 1) (by simp [hk])
  have R1 : Below w.heap.size w w1 := by rw [← hw1]; (repeat (first | with_reducible exact Below.refl _ _ | with_reducible refine below_drew ?_ | with_reducible refine below_drewN ?_ _ | with_reducible refine below_alloc ?_ (Nat.le_refl _) _ | with_reducible refine Below.setCell ?_ (by first | exact Nat.le_refl _ | (simp only []; omega)) _ | with_reducible assumption))
  have x1 := k1.below R1
  have y1 := j1.below R1
  have mc := F1.cell
  have zl1 := Z1.lt
  go_enter Try.func49, Try.ntmps49
  go_wp2_with (first
    | (go_at_call 87; ((with_reducible refine (begin_any false false _).mono ?_); rintro e w2 ⟨rfl, hB2⟩); (obtain ⟨w3, hw3⟩ : ∃ w3, w2.alloc (.cells #[.int .u8 (b0F false), .int .u8 (b1F false), .int .u8 136, .int .u8 11] 126) = w3 := ⟨_, rfl⟩); have G3 : Blk w3 w2.heap.size #[.int .u8 (b0F false), .int .u8 (b1F false), .int .u8 136, .int .u8 11] 126 := (by rw [← hw3]; exact blk_new w2 _ _ _ rfl); have V3 : Below w2.heap.size w2 w3 := (by rw [← hw3]; (repeat (first | with_reducible exact Below.refl _ _ | with_reducible refine below_drew ?_ | with_reducible refine below_drewN ?_ _ | with_reducible refine below_alloc ?_ (Nat.le_refl _) _ | with_reducible refine Below.setCell ?_ (by first | exact Nat.le_refl _ | (simp only []; omega)) _ | with_reducible assumption))); (obtain ⟨A4, c4, w4, hrun, O4, hB4⟩ := app_first w3 w2.heap.size (b0F false) (b1F false) (b0F_bd _).1 (b0F_bd _).2 (b1F_bd _).1 (b1F_bd _).2 G3))
    | (at_builtin; refine Lib.wpList_append_run _ rfl _ _ _ _ rfl _ _ rfl rfl _ _ hrun ?_))
  have T3 := below_then hB2 V3
  have T4 := below_then T3 hB4
  have F4 := F1.below T4
  have o4 := O4.bs
  have s3 := T3.size
  have s4 := hB4.size
  have hc4 : 8 ≤ c4 := o4.cap
  refine region_txt 9 (by kernel_rfl) (by kernel_rfl) ?_; (iterate 9 (first | (apply ObsK.skip (by rfl)) | (apply ObsK.v (by rfl); (intro wo hT; (repeat (first | (intro v hv; ((obtain ⟨A5, n5, c5, rfl, o5⟩ := hv; have u5 : n5 = 8 := (by rw [← o5.len]; rfl); subst u5; have ob5 := o5.bs))) | (intro _ _ k; try have hcv := cv k))); (have mc := (F4.below hT).cell; have bo := o4.below hT; have hsz : w4.heap.size ≤ wo.heap.size := hT.size); refine Goes.mk ?_; go_simp; first | exact goes_v | exact goes_b (by assumption) | (refine goes_enter ?_; first | (go_at_call 35; ((with_reducible refine (put16_any A4 8 c4 _ 4 z z0 z1 wo bo).mono ?_); rintro e w9 ⟨A9, c9, rfl, ho9, hB9⟩); rw [H1.out] at ho9; exact ret_p (own_isW ho9 hsz) hB9) | (go_at_call 35; ((with_reducible refine (put16_any A5 8 c5 _ 6 call ca0 ca1 wo ob5).mono ?_); rintro e w9 ⟨A9, c9, rfl, ho9, hB9⟩); rw [H2.out] at ho9; exact ret_p (own_isW ho9 hsz) hB9)))) | (apply ObsK.b (by rfl); (intro wo hT; (repeat (first | (intro v hv; ((obtain ⟨A5, n5, c5, rfl, o5⟩ := hv; have u5 : n5 = 8 := (by rw [← o5.len]; rfl); subst u5; have ob5 := o5.bs))) | (intro _ _ k; try have hcv := cv k))); (have mc := (F4.below hT).cell; have bo := o4.below hT; have hsz : w4.heap.size ≤ wo.heap.size := hT.size); refine Goes.mk ?_; go_simp; first | exact goes_v | exact goes_b (by assumption) | (refine goes_enter ?_; first | (go_at_call 35; ((with_reducible refine (put16_any A4 8 c4 _ 4 z z0 z1 wo bo).mono ?_); rintro e w9 ⟨A9, c9, rfl, ho9, hB9⟩); rw [H1.out] at ho9; exact ret_p (own_isW ho9 hsz) hB9) | (go_at_call 35; ((with_reducible refine (put16_any A5 8 c5 _ 6 call ca0 ca1 wo ob5).mono ?_); rintro e w9 ⟨A9, c9, rfl, ho9, hB9⟩); rw [H2.out] at ho9; exact ret_p (own_isW ho9 hsz) hB9)))) | (apply ObsK.p (q := isW w4.heap.size _) (by rfl) st_isW; (intro wo hT; (repeat (first | (intro v hv; ((obtain ⟨A5, n5, c5, rfl, o5⟩ := hv; have u5 : n5 = 8 := (by rw [← o5.len]; rfl); subst u5; have ob5 := o5.bs))) | (intro _ _ k; try have hcv := cv k))); (have mc := (F4.below hT).cell; have bo := o4.below hT; have hsz : w4.heap.size ≤ wo.heap.size := hT.size); refine Goes.mk ?_; go_simp; first | exact goes_v | exact goes_b (by assumption) | (refine goes_enter ?_; first | (go_at_call 35; ((with_reducible refine (put16_any A4 8 c4 _ 4 z z0 z1 wo bo).mono ?_); rintro e w9 ⟨A9, c9, rfl, ho9, hB9⟩); rw [H1.out] at ho9; exact ret_p (own_isW ho9 hsz) hB9) | (go_at_call 35; ((with_reducible refine (put16_any A5 8 c5 _ 6 call ca0 ca1 wo ob5).mono ?_); rintro e w9 ⟨A9, c9, rfl, ho9, hB9⟩); rw [H2.out] at ho9; exact ret_p (own_isW ho9 hsz) hB9)))))); refine ObsK.nil ?_; intro wz hBz; simp only [finOn, List.drop_succ_cons, List.drop_zero, List.drop_nil]
  rintro v6 ⟨A6, n6, c6, rfl, O6⟩ v7 hv7
  clear hv7
  have u6 : n6 = 8 := by rw [← O6.len]; rfl
  subst u6
  go_simp
  have T6 := below_then T4 hBz
  have P6 := P1.below T6
  have F6 := F1.below T6
  have Z6 := Z1.below T6
  have x6 := x1.below T6
  have y6 := y1.below T6
  have mc6 := F6.cell
  have sz6 := hBz.size
  generalize wz = w6 at *
  clear hBz o4 O4 hrun hB4 G3 hw3 V3 T3 F4 hw1 mc T4
  obtain ⟨w9, hw9⟩ : ∃ w9, w6.alloc (.cells #[.slice A6 8 c6, .slice B1 m1 d1] 24) = w9 := ⟨_, rfl⟩
  have G9 : Blk w9 w6.heap.size #[.slice A6 8 c6, .slice B1 m1 d1] 24 := by rw [← hw9]; exact blk_new w6 _ _ _ rfl
  have V9 : Below w6.heap.size w6 w9 := by rw [← hw9]; (repeat (first | with_reducible exact Below.refl _ _ | with_reducible refine below_drew ?_ | with_reducible refine below_drewN ?_ _ | with_reducible refine below_alloc ?_ (Nat.le_refl _) _ | with_reducible refine Below.setCell ?_ (by first | exact Nat.le_refl _ | (simp only []; omega)) _ | with_reducible assumption))
  have o6 := O6.bs
  have hcat := isCat2 G9 (o6.below V9) (y6.below V9) (cc := 2) (by omega)
  have T9 := below_then T6 V9
  have pc6 := P6.cell
  have s9 := (below_then R1 T9).size
  have kz : k + 1 + 1 < w9.heap.size := (Z6.below V9).lt
  go_wp2_with (go_at_call 68; ((with_reducible refine (hw2 w9 _ hcat (x6.below V9)).mono ?_); rintro e w10 ⟨⟨C1, e1, f1, C2, e2, f2, rfl, O1, O2, hB10⟩⟩); have T10 := below_then T9 hB10; have Z10 := Z1.below T10; have zc10 := Z10.cell)
  obtain ⟨wf, hwf, Sf⟩ := store9 Z10 (.int .u8 Q.tos) (.int .u16 Q.id) (.bool Q.keep) (.int .u8 Q.ttl) (.int .u8 Q.proto) (.int .u32 Q.src) (.int .u32 Q.dst) (.slice C1 e1 f1) (.slice C2 e2 f2)
  rw [hwf]
  have pf := Sf.blk.cell
  have Of := Sf.own O1 (fun a e => by have := O1.ge a e; omega)
  have Df := Sf.own O2 (fun a e => by have := O2.ge a e; omega)
  refine bodyPost_ret (v := .tuple #[(.agg #[.int .u8 (Q).tos, .int .u16 (Q).id, .bool (Q).keep, .int .u8 (Q).ttl, .int .u8 (Q).proto, .int .u32 (Q).src, .int .u32 (Q).dst, .slice C1 e1 f1, .slice C2 e2 f2]), .int .i64 E]) (by simp [results, Try.results49, go_sem, pf]) rfl ⟨⟨C1, e1, f1, C2, e2, f2, rfl, Of.mono s9, Df.mono s9, Sf.bel (below_then R1 T10) (by omega)⟩⟩
theorem bg_ok01 (p : Pkt) (A1 : Option Addr) (n1 c1 : Nat) (A2 : Option Addr) (n2 c2 : Nat) (call : Int) (hca : 0 ≤ call ∧ call ≤ 65535) (seq ack : Int) (hse : 0 ≤ seq ∧ seq ≤ 4294967295) (hak : 0 ≤ ack ∧ ack ≤ 4294967295) (hsq : (seq != 0) = false) (dat : List UInt8) (B1 : Option Addr) (m1 d1 : Nat) (w : World) (k1 : Bs w A1 n1 c1 p.opt) (j1 : Bs w B1 m1 d1 dat)
    (Q : Pkt) (E : Int) (hw2 : ∀ W lv, isCat lv (((grB false true ++ two ((m1 : Int) % 65536) ++ two call) ++ four ack) ++ dat) W → Bs W A1 n1 c1 p.opt → Calls Try.prog 68 #[(.agg #[.int .u8 (p).tos, .int .u16 (p).id, .bool (p).keep, .int .u8 (p).ttl, .int .u8 (p).proto, .int .u32 (p).src, .int .u32 (p).dst, .slice A1 n1 c1, .slice A2 n2 c2]), .int .u8 47, lv] W (WiPost W Q E)) (hm1 : m1 ≤ 140737488400000) :
    Calls Try.prog 49 #[(.agg #[.int .u8 (p).tos, .int .u16 (p).id, .bool (p).keep, .int .u8 (p).ttl, .int .u8 (p).proto, .int .u32 (p).src, .int .u32 (p).dst, .slice A1 n1 c1, .slice A2 n2 c2]), .agg #[.int .u16 call, .bool false, .bool true, .int .u32 seq, .int .u32 ack, .slice B1 m1 d1]] w (WiPost w Q E) := by
  have b1 := j1.max
  obtain ⟨ca0, ca1⟩ := hca
  obtain ⟨se0, se1⟩ := hse
  obtain ⟨ak0, ak1⟩ := hak
  obtain ⟨z, hz⟩ : ∃ z : Int, (m1 : Int) % 65536 = z := ⟨_, rfl⟩
  have z0 : 0 ≤ z := by omega
  have z1 : z ≤ 65535 := by omega
  have hzw : IntKind.u16.wrap (m1 : Int) = z := by rw [← hz]; simp [IntKind.wrap, IntKind.signed, IntKind.bits]
  rw [hz] at hw2
  have H1 : Hid (put16 ([ub (b0F false), ub (b1F true), ub 136, ub 11] ++ [0, 0, 0, 0]) 4 z = grB false true ++ two z ++ [0, 0]) := by unfold Hid; simp [put16, putK, two, grB]
  have H2 : Hid (put16 (grB false true ++ two z ++ [0, 0]) 6 call = grB false true ++ two z ++ two call) := by unfold Hid; simp [put16, putK, two, grB]
  have hl4 : (cu [0, 0, 0, 0]).toArray = #[.int .u8 0, .int .u8 0, .int .u8 0, .int .u8 0] := rfl
  obtain ⟨k, hk⟩ : ∃ k : Nat, w.heap.size = k := ⟨_, rfl⟩
  obtain ⟨w1, hw1⟩ : ∃ w1, ((w.alloc (.cells #[.int .u8 (p).tos, .int .u16 (p).id, .bool (p).keep, .int .u8 (p).ttl, .int .u8 (p).proto, .int .u32 (p).src, .int .u32 (p).dst, .slice A1 n1 c1, .slice A2 n2 c2] 26)).alloc (.cells #[.int .u16 call, .bool false, .bool true, .int .u32 seq, .int .u32 ack, .slice B1 m1 d1] 63)).alloc (.cells #[.int .u8 0, .int .u16 0, .bool false, .int .u8 0, .int .u8 0, .int .u32 0, .int .u32 0, .slice none 0 0, .slice none 0 0] 26) = w1 := ⟨_, rfl⟩
  have P1 : Blk w1 k #[.int .u8 (p).tos, .int .u16 (p).id, .bool (p).keep, .int .u8 (p).ttl, .int .u8 (p).proto, .int .u32 (p).src, .int .u32 (p).dst, .slice A1 n1 c1, .slice A2 n2 c2] 26 := by rw [← hw1]; exact ((blk_new w _ _ k hk).alloc _).alloc _
  have F1 : Blk w1 (k + 1) #[.int .u16 call, .bool false, .bool true, .int .u32 seq, .int .u32 ack, .slice B1 m1 d1] 63 := by rw [← hw1]; exact (blk_new _ _ _ (k + 1) (by simp [hk])).alloc _
  have Z1 : Blk w1 (k + 1 + 1) #[.int .u8 0, .int .u16 0, .bool false, .int .u8 0, .int .u8 0, .int .u32 0, .int .u32 0, .slice none 0 0, .slice none 0 0] 26 := by rw [← hw1]; exact blk_new _ _ _ (k + 1 + 1) (by simp [hk])
  have R1 : Below w.heap.size w w1 := by rw [← hw1]; (repeat (first | with_reducible exact Below.refl _ _ | with_reducible refine below_drew ?_ | with_reducible refine below_drewN ?_ _ | with_reducible refine below_alloc ?_ (Nat.le_refl _) _ | with_reducible refine Below.setCell ?_ (by first | exact Nat.le_refl _ | (simp only []; omega)) _ | with_reducible assumption))
  have x1 := k1.below R1
  have y1 := j1.below R1
  have mc := F1.cell
  have zl1 := Z1.lt
  go_enter Try.func49, Try.ntmps49
  go_wp2_with (first
    | (go_at_call 87; ((with_reducible refine (begin_any false true _).mono ?_); rintro e w2 ⟨rfl, hB2⟩); (obtain ⟨w3, hw3⟩ : ∃ w3, w2.alloc (.cells #[.int .u8 (b0F false), .int .u8 (b1F true), .int .u8 136, .int .u8 11] 126) = w3 := ⟨_, rfl⟩); have G3 : Blk w3 w2.heap.size #[.int .u8 (b0F false), .int .u8 (b1F true), .int .u8 136, .int .u8 11] 126 := (by rw [← hw3]; exact blk_new w2 _ _ _ rfl); have V3 : Below w2.heap.size w2 w3 := (by rw [← hw3]; (repeat (first | with_reducible exact Below.refl _ _ | with_reducible refine below_drew ?_ | with_reducible refine below_drewN ?_ _ | with_reducible refine below_alloc ?_ (Nat.le_refl _) _ | with_reducible refine Below.setCell ?_ (by first | exact Nat.le_refl _ | (simp only []; omega)) _ | with_reducible assumption))); (obtain ⟨A4, c4, w4, hrun, O4, hB4⟩ := app_first w3 w2.heap.size (b0F false) (b1F true) (b0F_bd _).1 (b0F_bd _).2 (b1F_bd _).1 (b1F_bd _).2 G3))
    | (at_builtin; refine Lib.wpList_append_run _ rfl _ _ _ _ rfl _ _ rfl rfl _ _ hrun ?_))
  have T3 := below_then hB2 V3
  have T4 := below_then T3 hB4
  have F4 := F1.below T4
  have o4 := O4.bs
  have s3 := T3.size
  have s4 := hB4.size
  have hc4 : 8 ≤ c4 := o4.cap
  refine region_txt 9 (by kernel_rfl) (by kernel_rfl) ?_; (iterate 9 (first | (apply ObsK.skip (by rfl)) | (apply ObsK.v (by rfl); (intro wo hT; (repeat (first | (intro v hv; ((obtain ⟨A5, n5, c5, rfl, o5⟩ := hv; have u5 : n5 = 8 := (by rw [← o5.len]; rfl); subst u5; have ob5 := o5.bs))) | (intro _ _ k; try have hcv := cv k))); (have mc := (F4.below hT).cell; have bo := o4.below hT; have hsz : w4.heap.size ≤ wo.heap.size := hT.size); refine Goes.mk ?_; go_simp; first | exact goes_v | exact goes_b (by assumption) | (refine goes_enter ?_; first | (go_at_call 35; ((with_reducible refine (put16_any A4 8 c4 _ 4 z z0 z1 wo bo).mono ?_); rintro e w9 ⟨A9, c9, rfl, ho9, hB9⟩); rw [H1.out] at ho9; exact ret_p (own_isW ho9 hsz) hB9) | (go_at_call 35; ((with_reducible refine (put16_any A5 8 c5 _ 6 call ca0 ca1 wo ob5).mono ?_); rintro e w9 ⟨A9, c9, rfl, ho9, hB9⟩); rw [H2.out] at ho9; exact ret_p (own_isW ho9 hsz) hB9)))) | (apply ObsK.b (by rfl); (intro wo hT; (repeat (first | (intro v hv; ((obtain ⟨A5, n5, c5, rfl, o5⟩ := hv; have u5 : n5 = 8 := (by rw [← o5.len]; rfl); subst u5; have ob5 := o5.bs))) | (intro _ _ k; try have hcv := cv k))); (have mc := (F4.below hT).cell; have bo := o4.below hT; have hsz : w4.heap.size ≤ wo.heap.size := hT.size); refine Goes.mk ?_; go_simp; first | exact goes_v | exact goes_b (by assumption) | (refine goes_enter ?_; first | (go_at_call 35; ((with_reducible refine (put16_any A4 8 c4 _ 4 z z0 z1 wo bo).mono ?_); rintro e w9 ⟨A9, c9, rfl, ho9, hB9⟩); rw [H1.out] at ho9; exact ret_p (own_isW ho9 hsz) hB9) | (go_at_call 35; ((with_reducible refine (put16_any A5 8 c5 _ 6 call ca0 ca1 wo ob5).mono ?_); rintro e w9 ⟨A9, c9, rfl, ho9, hB9⟩); rw [H2.out] at ho9; exact ret_p (own_isW ho9 hsz) hB9)))) | (apply ObsK.p (q := isW w4.heap.size _) (by rfl) st_isW; (intro wo hT; (repeat (first | (intro v hv; ((obtain ⟨A5, n5, c5, rfl, o5⟩ := hv; have u5 : n5 = 8 := (by rw [← o5.len]; rfl); subst u5; have ob5 := o5.bs))) | (intro _ _ k; try have hcv := cv k))); (have mc := (F4.below hT).cell; have bo := o4.below hT; have hsz : w4.heap.size ≤ wo.heap.size := hT.size); refine Goes.mk ?_; go_simp; first | exact goes_v | exact goes_b (by assumption) | (refine goes_enter ?_; first | (go_at_call 35; ((with_reducible refine (put16_any A4 8 c4 _ 4 z z0 z1 wo bo).mono ?_); rintro e w9 ⟨A9, c9, rfl, ho9, hB9⟩); rw [H1.out] at ho9; exact ret_p (own_isW ho9 hsz) hB9) | (go_at_call 35; ((with_reducible refine (put16_any A5 8 c5 _ 6 call ca0 ca1 wo ob5).mono ?_); rintro e w9 ⟨A9, c9, rfl, ho9, hB9⟩); rw [H2.out] at ho9; exact ret_p (own_isW ho9 hsz) hB9)))))); refine ObsK.nil ?_; intro wz hBz; simp only [finOn, List.drop_succ_cons, List.drop_zero, List.drop_nil]
  rintro v6 ⟨A6, n6, c6, rfl, O6⟩ v7 hv7
  clear hv7
  have u6 : n6 = 8 := by rw [← O6.len]; rfl
  subst u6
  go_simp
  have T6 := below_then T4 hBz
  have P6 := P1.below T6
  have F6 := F1.below T6
  have Z6 := Z1.below T6
  have x6 := x1.below T6
  have y6 := y1.below T6
  have mc6 := F6.cell
  have sz6 := hBz.size
  generalize wz = w6 at *
  clear hBz o4 O4 hrun hB4 G3 hw3 V3 T3 F4 hw1 mc T4
  go_wp2_with fail
  obtain ⟨g7, rfl, gl7, gh7⟩ := O6.ptr (by omega)
  have H7a : Hid (put32 ((grB false true ++ two z ++ two call) ++ [0, 0, 0, 0]) 8 ack = (grB false true ++ two z ++ two call) ++ four ack) := by unfold Hid; simp [put32, putK, two, four, grB]
  have sl7 : w1.heap.size ≤ g7 := by omega
  refine regionX 8 [2] g7 (fun c W => match c with | 0 => Own W w4.heap.size 5 (some ⟨g7, 0, none⟩) 8 c6 (grB false true ++ two z ++ two call) | _ + 1 => True) (by kernel_rfl) (by kernel_rfl) (by kernel_rfl) O6 (fun c W W' hj hb => by cases c with | zero => exact Own.below hj hb | succ n => trivial) ?_; (iterate 8 (first | (apply ObsX.skip (by rfl) (by rfl)) | (apply ObsX.v (by rfl) (by rfl); (intro wo hE; (repeat (first | (intro v hv; ((first | (obtain ⟨Aq, cq, rfl, oq, oq'⟩ := hv) | (obtain ⟨Ap, np, cp, rfl, op⟩ := hv; have up : np = 12 := (by rw [← op.len]; rfl); subst up; have obp := op.bs)))) | (intro _ _ k; try have hcv := cv k))); (have mc := (F6.ext hE (by omega)).cell; have hsz := hE.size; have glx := gh7); refine Goes.mk ?_; first | (exact goes_appX _ _ rfl rfl hj (fun k e => by simp [Value.ownBlock] at e; exact e.symm) rfl oq (by omega) (by omega) (fun _ => trivial)) | (go_simp; first | exact goes_v | exact goes_litN hl4 rfl (by omega) (by omega) | (refine goes_enter ?_; first | (go_at_call 34; ((with_reducible refine (put32_any Ap 12 cp _ 8 ack ak0 ak1 wo obp).mono ?_); rintro e w9 ⟨A9, c9, rfl, ho9, hB9⟩); rw [H7a.out] at ho9; exact ret_p (own_isW ho9 hsz) hB9))))) | (apply ObsX.p (q := isN g7 4 [0, 0, 0, 0]) (by rfl) (by rfl) st_isN sx_isN; (intro wo hE; (repeat (first | (intro v hv; ((first | (obtain ⟨Aq, cq, rfl, oq, oq'⟩ := hv) | (obtain ⟨Ap, np, cp, rfl, op⟩ := hv; have up : np = 12 := (by rw [← op.len]; rfl); subst up; have obp := op.bs)))) | (intro _ _ k; try have hcv := cv k))); (have mc := (F6.ext hE (by omega)).cell; have hsz := hE.size; have glx := gh7); refine Goes.mk ?_; first | (exact goes_appX _ _ rfl rfl hj (fun k e => by simp [Value.ownBlock] at e; exact e.symm) rfl oq (by omega) (by omega) (fun _ => trivial)) | (go_simp; first | exact goes_v | exact goes_litN hl4 rfl (by omega) (by omega) | (refine goes_enter ?_; first | (go_at_call 34; ((with_reducible refine (put32_any Ap 12 cp _ 8 ack ak0 ak1 wo obp).mono ?_); rintro e w9 ⟨A9, c9, rfl, ho9, hB9⟩); rw [H7a.out] at ho9; exact ret_p (own_isW ho9 hsz) hB9))))) | (apply ObsX.p (q := isW w6.heap.size _) (by rfl) (by rfl) st_isW (sx_isW gh7); (intro wo hE; (repeat (first | (intro v hv; ((first | (obtain ⟨Aq, cq, rfl, oq, oq'⟩ := hv) | (obtain ⟨Ap, np, cp, rfl, op⟩ := hv; have up : np = 12 := (by rw [← op.len]; rfl); subst up; have obp := op.bs)))) | (intro _ _ k; try have hcv := cv k))); (have mc := (F6.ext hE (by omega)).cell; have hsz := hE.size; have glx := gh7); refine Goes.mk ?_; first | (exact goes_appX _ _ rfl rfl hj (fun k e => by simp [Value.ownBlock] at e; exact e.symm) rfl oq (by omega) (by omega) (fun _ => trivial)) | (go_simp; first | exact goes_v | exact goes_litN hl4 rfl (by omega) (by omega) | (refine goes_enter ?_; first | (go_at_call 34; ((with_reducible refine (put32_any Ap 12 cp _ 8 ack ak0 ak1 wo obp).mono ?_); rintro e w9 ⟨A9, c9, rfl, ho9, hB9⟩); rw [H7a.out] at ho9; exact ret_p (own_isW ho9 hsz) hB9))))) | (apply ObsX.ev (by rfl) (by rfl); (intro wo hE hj; (repeat (first | (intro v hv; ((first | (obtain ⟨Aq, cq, rfl, oq, oq'⟩ := hv) | (obtain ⟨Ap, np, cp, rfl, op⟩ := hv; have up : np = 12 := (by rw [← op.len]; rfl); subst up; have obp := op.bs)))) | (intro _ _ k; try have hcv := cv k))); (have mc := (F6.ext hE (by omega)).cell; have hsz := hE.size; have glx := gh7); refine GoesX.mk ?_; first | (exact goes_appX _ _ rfl rfl hj (fun k e => by simp [Value.ownBlock] at e; exact e.symm) rfl oq (by omega) (by omega) (fun _ => trivial)) | (go_simp; first | exact goes_v | exact goes_litN hl4 rfl (by omega) (by omega) | (refine goes_enter ?_; first | (go_at_call 34; ((with_reducible refine (put32_any Ap 12 cp _ 8 ack ak0 ak1 wo obp).mono ?_); rintro e w9 ⟨A9, c9, rfl, ho9, hB9⟩); rw [H7a.out] at ho9; exact ret_p (own_isW ho9 hsz) hB9))))) | (apply ObsX.ep (q := isN g7 4 [0, 0, 0, 0]) (by rfl) (by rfl) (by rfl) st_isN; (intro wo hE hj; (repeat (first | (intro v hv; ((first | (obtain ⟨Aq, cq, rfl, oq, oq'⟩ := hv) | (obtain ⟨Ap, np, cp, rfl, op⟩ := hv; have up : np = 12 := (by rw [← op.len]; rfl); subst up; have obp := op.bs)))) | (intro _ _ k; try have hcv := cv k))); (have mc := (F6.ext hE (by omega)).cell; have hsz := hE.size; have glx := gh7); refine GoesX.mk ?_; first | (exact goes_appX _ _ rfl rfl hj (fun k e => by simp [Value.ownBlock] at e; exact e.symm) rfl oq (by omega) (by omega) (fun _ => trivial)) | (go_simp; first | exact goes_v | exact goes_litN hl4 rfl (by omega) (by omega) | (refine goes_enter ?_; first | (go_at_call 34; ((with_reducible refine (put32_any Ap 12 cp _ 8 ack ak0 ak1 wo obp).mono ?_); rintro e w9 ⟨A9, c9, rfl, ho9, hB9⟩); rw [H7a.out] at ho9; exact ret_p (own_isW ho9 hsz) hB9))))) | (apply ObsX.ep (q := isW w6.heap.size _) (by rfl) (by rfl) (by rfl) st_isW; (intro wo hE hj; (repeat (first | (intro v hv; ((first | (obtain ⟨Aq, cq, rfl, oq, oq'⟩ := hv) | (obtain ⟨Ap, np, cp, rfl, op⟩ := hv; have up : np = 12 := (by rw [← op.len]; rfl); subst up; have obp := op.bs)))) | (intro _ _ k; try have hcv := cv k))); (have mc := (F6.ext hE (by omega)).cell; have hsz := hE.size; have glx := gh7); refine GoesX.mk ?_; first | (exact goes_appX _ _ rfl rfl hj (fun k e => by simp [Value.ownBlock] at e; exact e.symm) rfl oq (by omega) (by omega) (fun _ => trivial)) | (go_simp; first | exact goes_v | exact goes_litN hl4 rfl (by omega) (by omega) | (refine goes_enter ?_; first | (go_at_call 34; ((with_reducible refine (put32_any Ap 12 cp _ 8 ack ak0 ak1 wo obp).mono ?_); rintro e w9 ⟨A9, c9, rfl, ho9, hB9⟩); rw [H7a.out] at ho9; exact ret_p (own_isW ho9 hsz) hB9))))) | (apply ObsX.ep (q := isW w4.heap.size _) (by rfl) (by rfl) (by rfl) st_isW; (intro wo hE hj; (repeat (first | (intro v hv; ((first | (obtain ⟨Aq, cq, rfl, oq, oq'⟩ := hv) | (obtain ⟨Ap, np, cp, rfl, op⟩ := hv; have up : np = 12 := (by rw [← op.len]; rfl); subst up; have obp := op.bs)))) | (intro _ _ k; try have hcv := cv k))); (have mc := (F6.ext hE (by omega)).cell; have hsz := hE.size; have glx := gh7); refine GoesX.mk ?_; first | (exact goes_appX _ _ rfl rfl hj (fun k e => by simp [Value.ownBlock] at e; exact e.symm) rfl oq (by omega) (by omega) (fun _ => trivial)) | (go_simp; first | exact goes_v | exact goes_litN hl4 rfl (by omega) (by omega) | (refine goes_enter ?_; first | (go_at_call 34; ((with_reducible refine (put32_any Ap 12 cp _ 8 ack ak0 ak1 wo obp).mono ?_); rintro e w9 ⟨A9, c9, rfl, ho9, hB9⟩); rw [H7a.out] at ho9; exact ret_p (own_isW ho9 hsz) hB9))))))); refine ObsX.nil ?_; intro wz hEz hJz; simp only [finOn, List.drop_succ_cons, List.drop_zero, List.drop_nil]
  rintro v1 ⟨A7, n7, c7, rfl, O7⟩ v2 hv2 v3 hv3
  clear hv2 hv3
  have u7 : n7 = 12 := by rw [← O7.len]; rfl
  subst u7
  go_simp
  have T7 := below_ext T6 hEz sl7 T6.size
  have P7 := P6.ext hEz (by omega)
  have F7 := F6.ext hEz (by omega)
  have Z7 := Z6.ext hEz (by omega)
  have x7 := x1.below T7
  have y7 := y1.below T7
  have mc7 := F7.cell
  have sz7 : w6.heap.size ≤ wz.heap.size := hEz.size
  generalize wz = w7 at *
  clear hEz hJz mc6 O6
  obtain ⟨w9, hw9⟩ : ∃ w9, w7.alloc (.cells #[.slice A7 12 c7, .slice B1 m1 d1] 24) = w9 := ⟨_, rfl⟩
  have G9 : Blk w9 w7.heap.size #[.slice A7 12 c7, .slice B1 m1 d1] 24 := by rw [← hw9]; exact blk_new w7 _ _ _ rfl
  have V9 : Below w7.heap.size w7 w9 := by rw [← hw9]; (repeat (first | with_reducible exact Below.refl _ _ | with_reducible refine below_drew ?_ | with_reducible refine below_drewN ?_ _ | with_reducible refine below_alloc ?_ (Nat.le_refl _) _ | with_reducible refine Below.setCell ?_ (by first | exact Nat.le_refl _ | (simp only []; omega)) _ | with_reducible assumption))
  have o7 := O7.bs
  have hcat := isCat2 G9 (o7.below V9) (y7.below V9) (cc := 2) (by omega)
  have T9 := below_then T7 V9
  have pc7 := P7.cell
  have s9 := (below_then R1 T9).size
  have kz : k + 1 + 1 < w9.heap.size := (Z7.below V9).lt
  go_wp2_with (go_at_call 68; ((with_reducible refine (hw2 w9 _ hcat (x7.below V9)).mono ?_); rintro e w10 ⟨⟨C1, e1, f1, C2, e2, f2, rfl, O1, O2, hB10⟩⟩); have T10 := below_then T9 hB10; have Z10 := Z1.below T10; have zc10 := Z10.cell)
  obtain ⟨wf, hwf, Sf⟩ := store9 Z10 (.int .u8 Q.tos) (.int .u16 Q.id) (.bool Q.keep) (.int .u8 Q.ttl) (.int .u8 Q.proto) (.int .u32 Q.src) (.int .u32 Q.dst) (.slice C1 e1 f1) (.slice C2 e2 f2)
  rw [hwf]
  have pf := Sf.blk.cell
  have Of := Sf.own O1 (fun a e => by have := O1.ge a e; omega)
  have Df := Sf.own O2 (fun a e => by have := O2.ge a e; omega)
  refine bodyPost_ret (v := .tuple #[(.agg #[.int .u8 (Q).tos, .int .u16 (Q).id, .bool (Q).keep, .int .u8 (Q).ttl, .int .u8 (Q).proto, .int .u32 (Q).src, .int .u32 (Q).dst, .slice C1 e1 f1, .slice C2 e2 f2]), .int .i64 E]) (by simp [results, Try.results49, go_sem, pf]) rfl ⟨⟨C1, e1, f1, C2, e2, f2, rfl, Of.mono s9, Df.mono s9, Sf.bel (below_then R1 T10) (by omega)⟩⟩
theorem bg_ok10 (p : Pkt) (A1 : Option Addr) (n1 c1 : Nat) (A2 : Option Addr) (n2 c2 : Nat) (call : Int) (hca : 0 ≤ call ∧ call ≤ 65535) (seq ack : Int) (hse : 0 ≤ seq ∧ seq ≤ 4294967295) (hak : 0 ≤ ack ∧ ack ≤ 4294967295) (hac : (ack != 0) = false) (dat : List UInt8) (B1 : Option Addr) (m1 d1 : Nat) (w : World) (k1 : Bs w A1 n1 c1 p.opt) (j1 : Bs w B1 m1 d1 dat)
    (Q : Pkt) (E : Int) (hw2 : ∀ W lv, isCat lv (((grB true false ++ two ((m1 : Int) % 65536) ++ two call) ++ four seq) ++ dat) W → Bs W A1 n1 c1 p.opt → Calls Try.prog 68 #[(.agg #[.int .u8 (p).tos, .int .u16 (p).id, .bool (p).keep, .int .u8 (p).ttl, .int .u8 (p).proto, .int .u32 (p).src, .int .u32 (p).dst, .slice A1 n1 c1, .slice A2 n2 c2]), .int .u8 47, lv] W (WiPost W Q E)) (hm1 : m1 ≤ 140737488400000) :
    Calls Try.prog 49 #[(.agg #[.int .u8 (p).tos, .int .u16 (p).id, .bool (p).keep, .int .u8 (p).ttl, .int .u8 (p).proto, .int .u32 (p).src, .int .u32 (p).dst, .slice A1 n1 c1, .slice A2 n2 c2]), .agg #[.int .u16 call, .bool true, .bool false, .int .u32 seq, .int .u32 ack, .slice B1 m1 d1]] w (WiPost w Q E) := by
  have b1 := j1.max
  obtain ⟨ca0, ca1⟩ := hca
  obtain ⟨se0, se1⟩ := hse
  obtain ⟨ak0, ak1⟩ := hak
  obtain ⟨z, hz⟩ : ∃ z : Int, (m1 : Int) % 65536 = z := ⟨_, rfl⟩
  have z0 : 0 ≤ z := by omega
  have z1 : z ≤ 65535 := by omega
  have hzw : IntKind.u16.wrap (m1 : Int) = z := by rw [← hz]; simp [IntKind.wrap, IntKind.signed, IntKind.bits]
  rw [hz] at hw2
  have H1 : Hid (put16 ([ub (b0F true), ub (b1F false), ub 136, ub 11] ++ [0, 0, 0, 0]) 4 z = grB true false ++ two z ++ [0, 0]) := by unfold Hid; simp [put16, putK, two, grB]
  have H2 : Hid (put16 (grB true false ++ two z ++ [0, 0]) 6 call = grB true false ++ two z ++ two call) := by unfold Hid; simp [put16, putK, two, grB]
  have hl4 : (cu [0, 0, 0, 0]).toArray = #[.int .u8 0, .int .u8 0, .int .u8 0, .int .u8 0] := rfl
  obtain ⟨k, hk⟩ : ∃ k : Nat, w.heap.size = k := ⟨_, rfl⟩
  obtain ⟨w1, hw1⟩ : ∃ w1, ((w.alloc (.cells #[.int .u8 (p).tos, .int .u16 (p).id, .bool (p).keep, .int .u8 (p).ttl, .int .u8 (p).proto, .int .u32 (p).src, .int .u32 (p).dst, .slice A1 n1 c1, .slice A2 n2 c2] 26)).alloc (.cells #[.int .u16 call, .bool true, .bool false, .int .u32 seq, .int .u32 ack, .slice B1 m1 d1] 63)).alloc (.cells #[.int .u8 0, .int .u16 0, .bool false, .int .u8 0, .int .u8 0, .int .u32 0, .int .u32 0, .slice none 0 0, .slice none 0 0] 26) = w1 := ⟨_, rfl⟩
  have P1 : Blk w1 k #[.int .u8 (p).tos, .int .u16 (p).id, .bool (p).keep, .int .u8 (p).ttl, .int .u8 (p).proto, .int .u32 (p).src, .int .u32 (p).dst, .slice A1 n1 c1, .slice A2 n2 c2] 26 := by rw [← hw1]; exact ((blk_new w _ _ k hk).alloc _).alloc _
  have F1 : Blk w1 (k + 1) #[.int .u16 call, .bool true, .bool false, .int .u32 seq, .int .u32 ack, .slice B1 m1 d1] 63 := by rw [← hw1]; exact (blk_new _ _ _ (k + 1) (by simp [hk])).alloc _
  have Z1 : Blk w1 (k + 1 + 1) #[.int .u8 0, .int .u16 0, .bool false, .int .u8 0, .int .u8 0, .int .u32 0, .int .u32 0, .slice none 0 0, .slice none 0 0] 26 := by rw [← hw1]; exact blk_new _ _ _ (k + 1 + 1) (by simp [hk])
  have R1 : Below w.heap.size w w1 := by rw [← hw1]; (repeat (first | with_reducible exact Below.refl _ _ | with_reducible refine below_drew ?_ | with_reducible refine below_drewN ?_ _ | with_reducible refine below_alloc ?_ (Nat.le_refl _) _ | with_reducible refine Below.setCell ?_ (by first | exact Nat.le_refl _ | (simp only []; omega)) _ | with_reducible assumption))
  have x1 := k1.below R1
  have y1 := j1.below R1
  have mc := F1.cell
  have zl1 := Z1.lt
  go_enter Try.func49, Try.ntmps49
  go_wp2_with (first
    | (go_at_call 87; ((with_reducible refine (begin_any true false _).mono ?_); rintro e w2 ⟨rfl, hB2⟩); (obtain ⟨w3, hw3⟩ : ∃ w3, w2.alloc (.cells #[.int .u8 (b0F true), .int .u8 (b1F false), .int .u8 136, .int .u8 11] 126) = w3 := ⟨_, rfl⟩); have G3 : Blk w3 w2.heap.size #[.int .u8 (b0F true), .int .u8 (b1F false), .int .u8 136, .int .u8 11] 126 := (by rw [← hw3]; exact blk_new w2 _ _ _ rfl); have V3 : Below w2.heap.size w2 w3 := (by rw [← hw3]; (repeat (first | with_reducible exact Below.refl _ _ | with_reducible refine below_drew ?_ | with_reducible refine below_drewN ?_ _ | with_reducible refine below_alloc ?_ (Nat.le_refl _) _ | with_reducible refine Below.setCell ?_ (by first | exact Nat.le_refl _ | (simp only []; omega)) _ | with_reducible assumption))); (obtain ⟨A4, c4, w4, hrun, O4, hB4⟩ := app_first w3 w2.heap.size (b0F true) (b1F false) (b0F_bd _).1 (b0F_bd _).2 (b1F_bd _).1 (b1F_bd _).2 G3))
    | (at_builtin; refine Lib.wpList_append_run _ rfl _ _ _ _ rfl _ _ rfl rfl _ _ hrun ?_))
  have T3 := below_then hB2 V3
  have T4 := below_then T3 hB4
  have F4 := F1.below T4
  have o4 := O4.bs
  have s3 := T3.size
  have s4 := hB4.size
  have hc4 : 8 ≤ c4 := o4.cap
  refine region_txt 9 (by kernel_rfl) (by kernel_rfl) ?_; (iterate 9 (first | (apply ObsK.skip (by rfl)) | (apply ObsK.v (by rfl); (intro wo hT; (repeat (first | (intro v hv; ((obtain ⟨A5, n5, c5, rfl, o5⟩ := hv; have u5 : n5 = 8 := (by rw [← o5.len]; rfl); subst u5; have ob5 := o5.bs))) | (intro _ _ k; try have hcv := cv k))); (have mc := (F4.below hT).cell; have bo := o4.below hT; have hsz : w4.heap.size ≤ wo.heap.size := hT.size); refine Goes.mk ?_; go_simp; first | exact goes_v | exact goes_b (by assumption) | (refine goes_enter ?_; first | (go_at_call 35; ((with_reducible refine (put16_any A4 8 c4 _ 4 z z0 z1 wo bo).mono ?_); rintro e w9 ⟨A9, c9, rfl, ho9, hB9⟩); rw [H1.out] at ho9; exact ret_p (own_isW ho9 hsz) hB9) | (go_at_call 35; ((with_reducible refine (put16_any A5 8 c5 _ 6 call ca0 ca1 wo ob5).mono ?_); rintro e w9 ⟨A9, c9, rfl, ho9, hB9⟩); rw [H2.out] at ho9; exact ret_p (own_isW ho9 hsz) hB9)))) | (apply ObsK.b (by rfl); (intro wo hT; (repeat (first | (intro v hv; ((obtain ⟨A5, n5, c5, rfl, o5⟩ := hv; have u5 : n5 = 8 := (by rw [← o5.len]; rfl); subst u5; have ob5 := o5.bs))) | (intro _ _ k; try have hcv := cv k))); (have mc := (F4.below hT).cell; have bo := o4.below hT; have hsz : w4.heap.size ≤ wo.heap.size := hT.size); refine Goes.mk ?_; go_simp; first | exact goes_v | exact goes_b (by assumption) | (refine goes_enter ?_; first | (go_at_call 35; ((with_reducible refine (put16_any A4 8 c4 _ 4 z z0 z1 wo bo).mono ?_); rintro e w9 ⟨A9, c9, rfl, ho9, hB9⟩); rw [H1.out] at ho9; exact ret_p (own_isW ho9 hsz) hB9) | (go_at_call 35; ((with_reducible refine (put16_any A5 8 c5 _ 6 call ca0 ca1 wo ob5).mono ?_); rintro e w9 ⟨A9, c9, rfl, ho9, hB9⟩); rw [H2.out] at ho9; exact ret_p (own_isW ho9 hsz) hB9)))) | (apply ObsK.p (q := isW w4.heap.size _) (by rfl) st_isW; (intro wo hT; (repeat (first | (intro v hv; ((obtain ⟨A5, n5, c5, rfl, o5⟩ := hv; have u5 : n5 = 8 := (by rw [← o5.len]; rfl); subst u5; have ob5 := o5.bs))) | (intro _ _ k; try have hcv := cv k))); (have mc := (F4.below hT).cell; have bo := o4.below hT; have hsz : w4.heap.size ≤ wo.heap.size := hT.size); refine Goes.mk ?_; go_simp; first | exact goes_v | exact goes_b (by assumption) | (refine goes_enter ?_; first | (go_at_call 35; ((with_reducible refine (put16_any A4 8 c4 _ 4 z z0 z1 wo bo).mono ?_); rintro e w9 ⟨A9, c9, rfl, ho9, hB9⟩); rw [H1.out] at ho9; exact ret_p (own_isW ho9 hsz) hB9) | (go_at_call 35; ((with_reducible refine (put16_any A5 8 c5 _ 6 call ca0 ca1 wo ob5).mono ?_); rintro e w9 ⟨A9, c9, rfl, ho9, hB9⟩); rw [H2.out] at ho9; exact ret_p (own_isW ho9 hsz) hB9)))))); refine ObsK.nil ?_; intro wz hBz; simp only [finOn, List.drop_succ_cons, List.drop_zero, List.drop_nil]
  rintro v6 ⟨A6, n6, c6, rfl, O6⟩ v7 hv7
  clear hv7
  have u6 : n6 = 8 := by rw [← O6.len]; rfl
  subst u6
  go_simp
  have T6 := below_then T4 hBz
  have P6 := P1.below T6
  have F6 := F1.below T6
  have Z6 := Z1.below T6
  have x6 := x1.below T6
  have y6 := y1.below T6
  have mc6 := F6.cell
  have sz6 := hBz.size
  generalize wz = w6 at *
  clear hBz o4 O4 hrun hB4 G3 hw3 V3 T3 F4 hw1 mc T4
  go_wp2_with fail
  obtain ⟨g7, rfl, gl7, gh7⟩ := O6.ptr (by omega)
  have H7a : Hid (put32 ((grB true false ++ two z ++ two call) ++ [0, 0, 0, 0]) 8 seq = (grB true false ++ two z ++ two call) ++ four seq) := by unfold Hid; simp [put32, putK, two, four, grB]
  have sl7 : w1.heap.size ≤ g7 := by omega
  refine regionX 8 [2] g7 (fun c W => match c with | 0 => Own W w4.heap.size 5 (some ⟨g7, 0, none⟩) 8 c6 (grB true false ++ two z ++ two call) | _ + 1 => True) (by kernel_rfl) (by kernel_rfl) (by kernel_rfl) O6 (fun c W W' hj hb => by cases c with | zero => exact Own.below hj hb | succ n => trivial) ?_; (iterate 8 (first | (apply ObsX.skip (by rfl) (by rfl)) | (apply ObsX.v (by rfl) (by rfl); (intro wo hE; (repeat (first | (intro v hv; ((first | (obtain ⟨Aq, cq, rfl, oq, oq'⟩ := hv) | (obtain ⟨Ap, np, cp, rfl, op⟩ := hv; have up : np = 12 := (by rw [← op.len]; rfl); subst up; have obp := op.bs)))) | (intro _ _ k; try have hcv := cv k))); (have mc := (F6.ext hE (by omega)).cell; have hsz := hE.size; have glx := gh7); refine Goes.mk ?_; first | (exact goes_appX _ _ rfl rfl hj (fun k e => by simp [Value.ownBlock] at e; exact e.symm) rfl oq (by omega) (by omega) (fun _ => trivial)) | (go_simp; first | exact goes_v | exact goes_litN hl4 rfl (by omega) (by omega) | (refine goes_enter ?_; first | (go_at_call 34; ((with_reducible refine (put32_any Ap 12 cp _ 8 seq se0 se1 wo obp).mono ?_); rintro e w9 ⟨A9, c9, rfl, ho9, hB9⟩); rw [H7a.out] at ho9; exact ret_p (own_isW ho9 hsz) hB9))))) | (apply ObsX.p (q := isN g7 4 [0, 0, 0, 0]) (by rfl) (by rfl) st_isN sx_isN; (intro wo hE; (repeat (first | (intro v hv; ((first | (obtain ⟨Aq, cq, rfl, oq, oq'⟩ := hv) | (obtain ⟨Ap, np, cp, rfl, op⟩ := hv; have up : np = 12 := (by rw [← op.len]; rfl); subst up; have obp := op.bs)))) | (intro _ _ k; try have hcv := cv k))); (have mc := (F6.ext hE (by omega)).cell; have hsz := hE.size; have glx := gh7); refine Goes.mk ?_; first | (exact goes_appX _ _ rfl rfl hj (fun k e => by simp [Value.ownBlock] at e; exact e.symm) rfl oq (by omega) (by omega) (fun _ => trivial)) | (go_simp; first | exact goes_v | exact goes_litN hl4 rfl (by omega) (by omega) | (refine goes_enter ?_; first | (go_at_call 34; ((with_reducible refine (put32_any Ap 12 cp _ 8 seq se0 se1 wo obp).mono ?_); rintro e w9 ⟨A9, c9, rfl, ho9, hB9⟩); rw [H7a.out] at ho9; exact ret_p (own_isW ho9 hsz) hB9))))) | (apply ObsX.p (q := isW w6.heap.size _) (by rfl) (by rfl) st_isW (sx_isW gh7); (intro wo hE; (repeat (first | (intro v hv; ((first | (obtain ⟨Aq, cq, rfl, oq, oq'⟩ := hv) | (obtain ⟨Ap, np, cp, rfl, op⟩ := hv; have up : np = 12 := (by rw [← op.len]; rfl); subst up; have obp := op.bs)))) | (intro _ _ k; try have hcv := cv k))); (have mc := (F6.ext hE (by omega)).cell; have hsz := hE.size; have glx := gh7); refine Goes.mk ?_; first | (exact goes_appX _ _ rfl rfl hj (fun k e => by simp [Value.ownBlock] at e; exact e.symm) rfl oq (by omega) (by omega) (fun _ => trivial)) | (go_simp; first | exact goes_v | exact goes_litN hl4 rfl (by omega) (by omega) | (refine goes_enter ?_; first | (go_at_call 34; ((with_reducible refine (put32_any Ap 12 cp _ 8 seq se0 se1 wo obp).mono ?_); rintro e w9 ⟨A9, c9, rfl, ho9, hB9⟩); rw [H7a.out] at ho9; exact ret_p (own_isW ho9 hsz) hB9))))) | (apply ObsX.ev (by rfl) (by rfl); (intro wo hE hj; (repeat (first | (intro v hv; ((first | (obtain ⟨Aq, cq, rfl, oq, oq'⟩ := hv) | (obtain ⟨Ap, np, cp, rfl, op⟩ := hv; have up : np = 12 := (by rw [← op.len]; rfl); subst up; have obp := op.bs)))) | (intro _ _ k; try have hcv := cv k))); (have mc := (F6.ext hE (by omega)).cell; have hsz := hE.size; have glx := gh7); refine GoesX.mk ?_; first | (exact goes_appX _ _ rfl rfl hj (fun k e => by simp [Value.ownBlock] at e; exact e.symm) rfl oq (by omega) (by omega) (fun _ => trivial)) | (go_simp; first | exact goes_v | exact goes_litN hl4 rfl (by omega) (by omega) | (refine goes_enter ?_; first | (go_at_call 34; ((with_reducible refine (put32_any Ap 12 cp _ 8 seq se0 se1 wo obp).mono ?_); rintro e w9 ⟨A9, c9, rfl, ho9, hB9⟩); rw [H7a.out] at ho9; exact ret_p (own_isW ho9 hsz) hB9))))) | (apply ObsX.ep (q := isN g7 4 [0, 0, 0, 0]) (by rfl) (by rfl) (by rfl) st_isN; (intro wo hE hj; (repeat (first | (intro v hv; ((first | (obtain ⟨Aq, cq, rfl, oq, oq'⟩ := hv) | (obtain ⟨Ap, np, cp, rfl, op⟩ := hv; have up : np = 12 := (by rw [← op.len]; rfl); subst up; have obp := op.bs)))) | (intro _ _ k; try have hcv := cv k))); (have mc := (F6.ext hE (by omega)).cell; have hsz := hE.size; have glx := gh7); refine GoesX.mk ?_; first | (exact goes_appX _ _ rfl rfl hj (fun k e => by simp [Value.ownBlock] at e; exact e.symm) rfl oq (by omega) (by omega) (fun _ => trivial)) | (go_simp; first | exact goes_v | exact goes_litN hl4 rfl (by omega) (by omega) | (refine goes_enter ?_; first | (go_at_call 34; ((with_reducible refine (put32_any Ap 12 cp _ 8 seq se0 se1 wo obp).mono ?_); rintro e w9 ⟨A9, c9, rfl, ho9, hB9⟩); rw [H7a.out] at ho9; exact ret_p (own_isW ho9 hsz) hB9))))) | (apply ObsX.ep (q := isW w6.heap.size _) (by rfl) (by rfl) (by rfl) st_isW; (intro wo hE hj; (repeat (first | (intro v hv; ((first | (obtain ⟨Aq, cq, rfl, oq, oq'⟩ := hv) | (obtain ⟨Ap, np, cp, rfl, op⟩ := hv; have up : np = 12 := (by rw [← op.len]; rfl); subst up; have obp := op.bs)))) | (intro _ _ k; try have hcv := cv k))); (have mc := (F6.ext hE (by omega)).cell; have hsz := hE.size; have glx := gh7); refine GoesX.mk ?_; first | (exact goes_appX _ _ rfl rfl hj (fun k e => by simp [Value.ownBlock] at e; exact e.symm) rfl oq (by omega) (by omega) (fun _ => trivial)) | (go_simp; first | exact goes_v | exact goes_litN hl4 rfl (by omega) (by omega) | (refine goes_enter ?_; first | (go_at_call 34; ((with_reducible refine (put32_any Ap 12 cp _ 8 seq se0 se1 wo obp).mono ?_); rintro e w9 ⟨A9, c9, rfl, ho9, hB9⟩); rw [H7a.out] at ho9; exact ret_p (own_isW ho9 hsz) hB9))))) | (apply ObsX.ep (q := isW w4.heap.size _) (by rfl) (by rfl) (by rfl) st_isW; (intro wo hE hj; (repeat (first | (intro v hv; ((first | (obtain ⟨Aq, cq, rfl, oq, oq'⟩ := hv) | (obtain ⟨Ap, np, cp, rfl, op⟩ := hv; have up : np = 12 := (by rw [← op.len]; rfl); subst up; have obp := op.bs)))) | (intro _ _ k; try have hcv := cv k))); (have mc := (F6.ext hE (by omega)).cell; have hsz := hE.size; have glx := gh7); refine GoesX.mk ?_; first | (exact goes_appX _ _ rfl rfl hj (fun k e => by simp [Value.ownBlock] at e; exact e.symm) rfl oq (by omega) (by omega) (fun _ => trivial)) | (go_simp; first | exact goes_v | exact goes_litN hl4 rfl (by omega) (by omega) | (refine goes_enter ?_; first | (go_at_call 34; ((with_reducible refine (put32_any Ap 12 cp _ 8 seq se0 se1 wo obp).mono ?_); rintro e w9 ⟨A9, c9, rfl, ho9, hB9⟩); rw [H7a.out] at ho9; exact ret_p (own_isW ho9 hsz) hB9))))))); refine ObsX.nil ?_; intro wz hEz hJz; simp only [finOn, List.drop_succ_cons, List.drop_zero, List.drop_nil]
  rintro v1 ⟨A7, n7, c7, rfl, O7⟩ v2 hv2 v3 hv3
  clear hv2 hv3
  have u7 : n7 = 12 := by rw [← O7.len]; rfl
  subst u7
  go_simp
  have T7 := below_ext T6 hEz sl7 T6.size
  have P7 := P6.ext hEz (by omega)
  have F7 := F6.ext hEz (by omega)
  have Z7 := Z6.ext hEz (by omega)
  have x7 := x1.below T7
  have y7 := y1.below T7
  have mc7 := F7.cell
  have sz7 : w6.heap.size ≤ wz.heap.size := hEz.size
  generalize wz = w7 at *
  clear hEz hJz mc6 O6
  obtain ⟨w9, hw9⟩ : ∃ w9, w7.alloc (.cells #[.slice A7 12 c7, .slice B1 m1 d1] 24) = w9 := ⟨_, rfl⟩
  have G9 : Blk w9 w7.heap.size #[.slice A7 12 c7, .slice B1 m1 d1] 24 := by rw [← hw9]; exact blk_new w7 _ _ _ rfl
  have V9 : Below w7.heap.size w7 w9 := by rw [← hw9]; (repeat (first | with_reducible exact Below.refl _ _ | with_reducible refine below_drew ?_ | with_reducible refine below_drewN ?_ _ | with_reducible refine below_alloc ?_ (Nat.le_refl _) _ | with_reducible refine Below.setCell ?_ (by first | exact Nat.le_refl _ | (simp only []; omega)) _ | with_reducible assumption))
  have o7 := O7.bs
  have hcat := isCat2 G9 (o7.below V9) (y7.below V9) (cc := 2) (by omega)
  have T9 := below_then T7 V9
  have pc7 := P7.cell
  have s9 := (below_then R1 T9).size
  have kz : k + 1 + 1 < w9.heap.size := (Z7.below V9).lt
  go_wp2_with (go_at_call 68; ((with_reducible refine (hw2 w9 _ hcat (x7.below V9)).mono ?_); rintro e w10 ⟨⟨C1, e1, f1, C2, e2, f2, rfl, O1, O2, hB10⟩⟩); have T10 := below_then T9 hB10; have Z10 := Z1.below T10; have zc10 := Z10.cell)
  obtain ⟨wf, hwf, Sf⟩ := store9 Z10 (.int .u8 Q.tos) (.int .u16 Q.id) (.bool Q.keep) (.int .u8 Q.ttl) (.int .u8 Q.proto) (.int .u32 Q.src) (.int .u32 Q.dst) (.slice C1 e1 f1) (.slice C2 e2 f2)
  rw [hwf]
  have pf := Sf.blk.cell
  have Of := Sf.own O1 (fun a e => by have := O1.ge a e; omega)
  have Df := Sf.own O2 (fun a e => by have := O2.ge a e; omega)
  refine bodyPost_ret (v := .tuple #[(.agg #[.int .u8 (Q).tos, .int .u16 (Q).id, .bool (Q).keep, .int .u8 (Q).ttl, .int .u8 (Q).proto, .int .u32 (Q).src, .int .u32 (Q).dst, .slice C1 e1 f1, .slice C2 e2 f2]), .int .i64 E]) (by simp [results, Try.results49, go_sem, pf]) rfl ⟨⟨C1, e1, f1, C2, e2, f2, rfl, Of.mono s9, Df.mono s9, Sf.bel (below_then R1 T10) (by omega)⟩⟩
theorem bg_ok11 (p : Pkt) (A1 : Option Addr) (n1 c1 : Nat) (A2 : Option Addr) (n2 c2 : Nat) (call : Int) (hca : 0 ≤ call ∧ call ≤ 65535) (seq ack : Int) (hse : 0 ≤ seq ∧ seq ≤ 4294967295) (hak : 0 ≤ ack ∧ ack ≤ 4294967295) (dat : List UInt8) (B1 : Option Addr) (m1 d1 : Nat) (w : World) (k1 : Bs w A1 n1 c1 p.opt) (j1 : Bs w B1 m1 d1 dat)
    (Q : Pkt) (E : Int) (hw2 : ∀ W lv, isCat lv ((((grB true true ++ two ((m1 : Int) % 65536) ++ two call) ++ four seq) ++ four ack) ++ dat) W → Bs W A1 n1 c1 p.opt → Calls Try.prog 68 #[(.agg #[.int .u8 (p).tos, .int .u16 (p).id, .bool (p).keep, .int .u8 (p).ttl, .int .u8 (p).proto, .int .u32 (p).src, .int .u32 (p).dst, .slice A1 n1 c1, .slice A2 n2 c2]), .int .u8 47, lv] W (WiPost W Q E)) (hm1 : m1 ≤ 140737488400000) :
    Calls Try.prog 49 #[(.agg #[.int .u8 (p).tos, .int .u16 (p).id, .bool (p).keep, .int .u8 (p).ttl, .int .u8 (p).proto, .int .u32 (p).src, .int .u32 (p).dst, .slice A1 n1 c1, .slice A2 n2 c2]), .agg #[.int .u16 call, .bool true, .bool true, .int .u32 seq, .int .u32 ack, .slice B1 m1 d1]] w (WiPost w Q E) := by
  have b1 := j1.max
  obtain ⟨ca0, ca1⟩ := hca
  obtain ⟨se0, se1⟩ := hse
  obtain ⟨ak0, ak1⟩ := hak
  obtain ⟨z, hz⟩ : ∃ z : Int, (m1 : Int) % 65536 = z := ⟨_, rfl⟩
  have z0 : 0 ≤ z := by omega
  have z1 : z ≤ 65535 := by omega
  have hzw : IntKind.u16.wrap (m1 : Int) = z := by rw [← hz]; simp [IntKind.wrap, IntKind.signed, IntKind.bits]
  rw [hz] at hw2
  have H1 : Hid (put16 ([ub (b0F true), ub (b1F true), ub 136, ub 11] ++ [0, 0, 0, 0]) 4 z = grB true true ++ two z ++ [0, 0]) := by unfold Hid; simp [put16, putK, two, grB]
  have H2 : Hid (put16 (grB true true ++ two z ++ [0, 0]) 6 call = grB true true ++ two z ++ two call) := by unfold Hid; simp [put16, putK, two, grB]
  have hl4 : (cu [0, 0, 0, 0]).toArray = #[.int .u8 0, .int .u8 0, .int .u8 0, .int .u8 0] := rfl
  obtain ⟨k, hk⟩ : ∃ k : Nat, w.heap.size = k := ⟨_, rfl⟩
  obtain ⟨w1, hw1⟩ : ∃ w1, ((w.alloc (.cells #[.int .u8 (p).tos, .int .u16 (p).id, .bool (p).keep, .int .u8 (p).ttl, .int .u8 (p).proto, .int .u32 (p).src, .int .u32 (p).dst, .slice A1 n1 c1, .slice A2 n2 c2] 26)).alloc (.cells #[.int .u16 call, .bool true, .bool true, .int .u32 seq, .int .u32 ack, .slice B1 m1 d1] 63)).alloc (.cells #[.int .u8 0, .int .u16 0, .bool false, .int .u8 0, .int .u8 0, .int .u32 0, .int .u32 0, .slice none 0 0, .slice none 0 0] 26) = w1 := ⟨_, rfl⟩
  have P1 : Blk w1 k #[.int .u8 (p).tos, .int .u16 (p).id, .bool (p).keep, .int .u8 (p).ttl, .int .u8 (p).proto, .int .u32 (p).src, .int .u32 (p).dst, .slice A1 n1 c1, .slice A2 n2 c2] 26 := by rw [← hw1]; exact ((blk_new w _ _ k hk).alloc _).alloc _
  have F1 : Blk w1 (k + 1) #[.int .u16 call, .bool true, .bool true, .int .u32 seq, .int .u32 ack, .slice B1 m1 d1] 63 := by rw [← hw1]; exact (blk_new _ _ _ (k + 1) (by simp [hk])).alloc _
  have Z1 : Blk w1 (k + 1 + 1) #[.int .u8 0, .int .u16 0, .bool false, .int .u8 0, .int .u8 0, .int .u32 0, .int .u32 0, .slice none 0 0, .slice none 0 0] 26 := by rw [← hw1]; exact blk_new _ _ _ (k + 1 + 1) (by simp [hk])
  have R1 : Below w.heap.size w w1 := by rw [← hw1]; (repeat (first | with_reducible exact Below.refl _ _ | with_reducible refine below_drew ?_ | with_reducible refine below_drewN ?_ _ | with_reducible refine below_alloc ?_ (Nat.le_refl _) _ | with_reducible refine Below.setCell ?_ (by first | exact Nat.le_refl _ | (simp only []; omega)) _ | with_reducible assumption))
  have x1 := k1.below R1
  have y1 := j1.below R1
  have mc := F1.cell
  have zl1 := Z1.lt
  go_enter Try.func49, Try.ntmps49
  go_wp2_with (first
    | (go_at_call 87; ((with_reducible refine (begin_any true true _).mono ?_); rintro e w2 ⟨rfl, hB2⟩); (obtain ⟨w3, hw3⟩ : ∃ w3, w2.alloc (.cells #[.int .u8 (b0F true), .int .u8 (b1F true), .int .u8 136, .int .u8 11] 126) = w3 := ⟨_, rfl⟩); have G3 : Blk w3 w2.heap.size #[.int .u8 (b0F true), .int .u8 (b1F true), .int .u8 136, .int .u8 11] 126 := (by rw [← hw3]; exact blk_new w2 _ _ _ rfl); have V3 : Below w2.heap.size w2 w3 := (by rw [← hw3]; (repeat (first | with_reducible exact Below.refl _ _ | with_reducible refine below_drew ?_ | with_reducible refine below_drewN ?_ _ | with_reducible refine below_alloc ?_ (Nat.le_refl _) _ | with_reducible refine Below.setCell ?_ (by first | exact Nat.le_refl _ | (simp only []; omega)) _ | with_reducible assumption))); (obtain ⟨A4, c4, w4, hrun, O4, hB4⟩ := app_first w3 w2.heap.size (b0F true) (b1F true) (b0F_bd _).1 (b0F_bd _).2 (b1F_bd _).1 (b1F_bd _).2 G3))
    | (at_builtin; refine Lib.wpList_append_run _ rfl _ _ _ _ rfl _ _ rfl rfl _ _ hrun ?_))
  have T3 := below_then hB2 V3
  have T4 := below_then T3 hB4
  have F4 := F1.below T4
  have o4 := O4.bs
  have s3 := T3.size
  have s4 := hB4.size
  have hc4 : 8 ≤ c4 := o4.cap
  refine region_txt 9 (by kernel_rfl) (by kernel_rfl) ?_; (iterate 9 (first | (apply ObsK.skip (by rfl)) | (apply ObsK.v (by rfl); (intro wo hT; (repeat (first | (intro v hv; ((obtain ⟨A5, n5, c5, rfl, o5⟩ := hv; have u5 : n5 = 8 := (by rw [← o5.len]; rfl); subst u5; have ob5 := o5.bs))) | (intro _ _ k; try have hcv := cv k))); (have mc := (F4.below hT).cell; have bo := o4.below hT; have hsz : w4.heap.size ≤ wo.heap.size := hT.size); refine Goes.mk ?_; go_simp; first | exact goes_v | exact goes_b (by assumption) | (refine goes_enter ?_; first | (go_at_call 35; ((with_reducible refine (put16_any A4 8 c4 _ 4 z z0 z1 wo bo).mono ?_); rintro e w9 ⟨A9, c9, rfl, ho9, hB9⟩); rw [H1.out] at ho9; exact ret_p (own_isW ho9 hsz) hB9) | (go_at_call 35; ((with_reducible refine (put16_any A5 8 c5 _ 6 call ca0 ca1 wo ob5).mono ?_); rintro e w9 ⟨A9, c9, rfl, ho9, hB9⟩); rw [H2.out] at ho9; exact ret_p (own_isW ho9 hsz) hB9)))) | (apply ObsK.b (by rfl); (intro wo hT; (repeat (first | (intro v hv; ((obtain ⟨A5, n5, c5, rfl, o5⟩ := hv; have u5 : n5 = 8 := (by rw [← o5.len]; rfl); subst u5; have ob5 := o5.bs))) | (intro _ _ k; try have hcv := cv k))); (have mc := (F4.below hT).cell; have bo := o4.below hT; have hsz : w4.heap.size ≤ wo.heap.size := hT.size); refine Goes.mk ?_; go_simp; first | exact goes_v | exact goes_b (by assumption) | (refine goes_enter ?_; first | (go_at_call 35; ((with_reducible refine (put16_any A4 8 c4 _ 4 z z0 z1 wo bo).mono ?_); rintro e w9 ⟨A9, c9, rfl, ho9, hB9⟩); rw [H1.out] at ho9; exact ret_p (own_isW ho9 hsz) hB9) | (go_at_call 35; ((with_reducible refine (put16_any A5 8 c5 _ 6 call ca0 ca1 wo ob5).mono ?_); rintro e w9 ⟨A9, c9, rfl, ho9, hB9⟩); rw [H2.out] at ho9; exact ret_p (own_isW ho9 hsz) hB9)))) | (apply ObsK.p (q := isW w4.heap.size _) (by rfl) st_isW; (intro wo hT; (repeat (first | (intro v hv; ((obtain ⟨A5, n5, c5, rfl, o5⟩ := hv; have u5 : n5 = 8 := (by rw [← o5.len]; rfl); subst u5; have ob5 := o5.bs))) | (intro _ _ k; try have hcv := cv k))); (have mc := (F4.below hT).cell; have bo := o4.below hT; have hsz : w4.heap.size ≤ wo.heap.size := hT.size); refine Goes.mk ?_; go_simp; first | exact goes_v | exact goes_b (by assumption) | (refine goes_enter ?_; first | (go_at_call 35; ((with_reducible refine (put16_any A4 8 c4 _ 4 z z0 z1 wo bo).mono ?_); rintro e w9 ⟨A9, c9, rfl, ho9, hB9⟩); rw [H1.out] at ho9; exact ret_p (own_isW ho9 hsz) hB9) | (go_at_call 35; ((with_reducible refine (put16_any A5 8 c5 _ 6 call ca0 ca1 wo ob5).mono ?_); rintro e w9 ⟨A9, c9, rfl, ho9, hB9⟩); rw [H2.out] at ho9; exact ret_p (own_isW ho9 hsz) hB9)))))); refine ObsK.nil ?_; intro wz hBz; simp only [finOn, List.drop_succ_cons, List.drop_zero, List.drop_nil]
  rintro v6 ⟨A6, n6, c6, rfl, O6⟩ v7 hv7
  clear hv7
  have u6 : n6 = 8 := by rw [← O6.len]; rfl
  subst u6
  go_simp
  have T6 := below_then T4 hBz
  have P6 := P1.below T6
  have F6 := F1.below T6
  have Z6 := Z1.below T6
  have x6 := x1.below T6
  have y6 := y1.below T6
  have mc6 := F6.cell
  have sz6 := hBz.size
  generalize wz = w6 at *
  clear hBz o4 O4 hrun hB4 G3 hw3 V3 T3 F4 hw1 mc T4
  go_wp2_with fail
  obtain ⟨g7, rfl, gl7, gh7⟩ := O6.ptr (by omega)
  have H7a : Hid (put32 ((grB true true ++ two z ++ two call) ++ [0, 0, 0, 0]) 8 seq = (grB true true ++ two z ++ two call) ++ four seq) := by unfold Hid; simp [put32, putK, two, four, grB]
  have sl7 : w1.heap.size ≤ g7 := by omega
  refine regionX 8 [2] g7 (fun c W => match c with | 0 => Own W w4.heap.size 5 (some ⟨g7, 0, none⟩) 8 c6 (grB true true ++ two z ++ two call) | _ + 1 => True) (by kernel_rfl) (by kernel_rfl) (by kernel_rfl) O6 (fun c W W' hj hb => by cases c with | zero => exact Own.below hj hb | succ n => trivial) ?_; (iterate 8 (first | (apply ObsX.skip (by rfl) (by rfl)) | (apply ObsX.v (by rfl) (by rfl); (intro wo hE; (repeat (first | (intro v hv; ((first | (obtain ⟨Aq, cq, rfl, oq, oq'⟩ := hv) | (obtain ⟨Ap, np, cp, rfl, op⟩ := hv; have up : np = 12 := (by rw [← op.len]; rfl); subst up; have obp := op.bs)))) | (intro _ _ k; try have hcv := cv k))); (have mc := (F6.ext hE (by omega)).cell; have hsz := hE.size; have glx := gh7); refine Goes.mk ?_; first | (exact goes_appX _ _ rfl rfl hj (fun k e => by simp [Value.ownBlock] at e; exact e.symm) rfl oq (by omega) (by omega) (fun _ => trivial)) | (go_simp; first | exact goes_v | exact goes_litN hl4 rfl (by omega) (by omega) | (refine goes_enter ?_; first | (go_at_call 34; ((with_reducible refine (put32_any Ap 12 cp _ 8 seq se0 se1 wo obp).mono ?_); rintro e w9 ⟨A9, c9, rfl, ho9, hB9⟩); rw [H7a.out] at ho9; exact ret_p (own_isW ho9 hsz) hB9))))) | (apply ObsX.p (q := isN g7 4 [0, 0, 0, 0]) (by rfl) (by rfl) st_isN sx_isN; (intro wo hE; (repeat (first | (intro v hv; ((first | (obtain ⟨Aq, cq, rfl, oq, oq'⟩ := hv) | (obtain ⟨Ap, np, cp, rfl, op⟩ := hv; have up : np = 12 := (by rw [← op.len]; rfl); subst up; have obp := op.bs)))) | (intro _ _ k; try have hcv := cv k))); (have mc := (F6.ext hE (by omega)).cell; have hsz := hE.size; have glx := gh7); refine Goes.mk ?_; first | (exact goes_appX _ _ rfl rfl hj (fun k e => by simp [Value.ownBlock] at e; exact e.symm) rfl oq (by omega) (by omega) (fun _ => trivial)) | (go_simp; first | exact goes_v | exact goes_litN hl4 rfl (by omega) (by omega) | (refine goes_enter ?_; first | (go_at_call 34; ((with_reducible refine (put32_any Ap 12 cp _ 8 seq se0 se1 wo obp).mono ?_); rintro e w9 ⟨A9, c9, rfl, ho9, hB9⟩); rw [H7a.out] at ho9; exact ret_p (own_isW ho9 hsz) hB9))))) | (apply ObsX.p (q := isW w6.heap.size _) (by rfl) (by rfl) st_isW (sx_isW gh7); (intro wo hE; (repeat (first | (intro v hv; ((first | (obtain ⟨Aq, cq, rfl, oq, oq'⟩ := hv) | (obtain ⟨Ap, np, cp, rfl, op⟩ := hv; have up : np = 12 := (by rw [← op.len]; rfl); subst up; have obp := op.bs)))) | (intro _ _ k; try have hcv := cv k))); (have mc := (F6.ext hE (by omega)).cell; have hsz := hE.size; have glx := gh7); refine Goes.mk ?_; first | (exact goes_appX _ _ rfl rfl hj (fun k e => by simp [Value.ownBlock] at e; exact e.symm) rfl oq (by omega) (by omega) (fun _ => trivial)) | (go_simp; first | exact goes_v | exact goes_litN hl4 rfl (by omega) (by omega) | (refine goes_enter ?_; first | (go_at_call 34; ((with_reducible refine (put32_any Ap 12 cp _ 8 seq se0 se1 wo obp).mono ?_); rintro e w9 ⟨A9, c9, rfl, ho9, hB9⟩); rw [H7a.out] at ho9; exact ret_p (own_isW ho9 hsz) hB9))))) | (apply ObsX.ev (by rfl) (by rfl); (intro wo hE hj; (repeat (first | (intro v hv; ((first | (obtain ⟨Aq, cq, rfl, oq, oq'⟩ := hv) | (obtain ⟨Ap, np, cp, rfl, op⟩ := hv; have up : np = 12 := (by rw [← op.len]; rfl); subst up; have obp := op.bs)))) | (intro _ _ k; try have hcv := cv k))); (have mc := (F6.ext hE (by omega)).cell; have hsz := hE.size; have glx := gh7); refine GoesX.mk ?_; first | (exact goes_appX _ _ rfl rfl hj (fun k e => by simp [Value.ownBlock] at e; exact e.symm) rfl oq (by omega) (by omega) (fun _ => trivial)) | (go_simp; first | exact goes_v | exact goes_litN hl4 rfl (by omega) (by omega) | (refine goes_enter ?_; first | (go_at_call 34; ((with_reducible refine (put32_any Ap 12 cp _ 8 seq se0 se1 wo obp).mono ?_); rintro e w9 ⟨A9, c9, rfl, ho9, hB9⟩); rw [H7a.out] at ho9; exact ret_p (own_isW ho9 hsz) hB9))))) | (apply ObsX.ep (q := isN g7 4 [0, 0, 0, 0]) (by rfl) (by rfl) (by rfl) st_isN; (intro wo hE hj; (repeat (first | (intro v hv; ((first | (obtain ⟨Aq, cq, rfl, oq, oq'⟩ := hv) | (obtain ⟨Ap, np, cp, rfl, op⟩ := hv; have up : np = 12 := (by rw [← op.len]; rfl); subst up; have obp := op.bs)))) | (intro _ _ k; try have hcv := cv k))); (have mc := (F6.ext hE (by omega)).cell; have hsz := hE.size; have glx := gh7); refine GoesX.mk ?_; first | (exact goes_appX _ _ rfl rfl hj (fun k e => by simp [Value.ownBlock] at e; exact e.symm) rfl oq (by omega) (by omega) (fun _ => trivial)) | (go_simp; first | exact goes_v | exact goes_litN hl4 rfl (by omega) (by omega) | (refine goes_enter ?_; first | (go_at_call 34; ((with_reducible refine (put32_any Ap 12 cp _ 8 seq se0 se1 wo obp).mono ?_); rintro e w9 ⟨A9, c9, rfl, ho9, hB9⟩); rw [H7a.out] at ho9; exact ret_p (own_isW ho9 hsz) hB9))))) | (apply ObsX.ep (q := isW w6.heap.size _) (by rfl) (by rfl) (by rfl) st_isW; (intro wo hE hj; (repeat (first | (intro v hv; ((first | (obtain ⟨Aq, cq, rfl, oq, oq'⟩ := hv) | (obtain ⟨Ap, np, cp, rfl, op⟩ := hv; have up : np = 12 := (by rw [← op.len]; rfl); subst up; have obp := op.bs)))) | (intro _ _ k; try have hcv := cv k))); (have mc := (F6.ext hE (by omega)).cell; have hsz := hE.size; have glx := gh7); refine GoesX.mk ?_; first | (exact goes_appX _ _ rfl rfl hj (fun k e => by simp [Value.ownBlock] at e; exact e.symm) rfl oq (by omega) (by omega) (fun _ => trivial)) | (go_simp; first | exact goes_v | exact goes_litN hl4 rfl (by omega) (by omega) | (refine goes_enter ?_; first | (go_at_call 34; ((with_reducible refine (put32_any Ap 12 cp _ 8 seq se0 se1 wo obp).mono ?_); rintro e w9 ⟨A9, c9, rfl, ho9, hB9⟩); rw [H7a.out] at ho9; exact ret_p (own_isW ho9 hsz) hB9))))) | (apply ObsX.ep (q := isW w4.heap.size _) (by rfl) (by rfl) (by rfl) st_isW; (intro wo hE hj; (repeat (first | (intro v hv; ((first | (obtain ⟨Aq, cq, rfl, oq, oq'⟩ := hv) | (obtain ⟨Ap, np, cp, rfl, op⟩ := hv; have up : np = 12 := (by rw [← op.len]; rfl); subst up; have obp := op.bs)))) | (intro _ _ k; try have hcv := cv k))); (have mc := (F6.ext hE (by omega)).cell; have hsz := hE.size; have glx := gh7); refine GoesX.mk ?_; first | (exact goes_appX _ _ rfl rfl hj (fun k e => by simp [Value.ownBlock] at e; exact e.symm) rfl oq (by omega) (by omega) (fun _ => trivial)) | (go_simp; first | exact goes_v | exact goes_litN hl4 rfl (by omega) (by omega) | (refine goes_enter ?_; first | (go_at_call 34; ((with_reducible refine (put32_any Ap 12 cp _ 8 seq se0 se1 wo obp).mono ?_); rintro e w9 ⟨A9, c9, rfl, ho9, hB9⟩); rw [H7a.out] at ho9; exact ret_p (own_isW ho9 hsz) hB9))))))); refine ObsX.nil ?_; intro wz hEz hJz; simp only [finOn, List.drop_succ_cons, List.drop_zero, List.drop_nil]
  rintro v1 ⟨A7, n7, c7, rfl, O7⟩ v2 hv2 v3 hv3
  clear hv2 hv3
  have u7 : n7 = 12 := by rw [← O7.len]; rfl
  subst u7
  go_simp
  have T7 := below_ext T6 hEz sl7 T6.size
  have P7 := P6.ext hEz (by omega)
  have F7 := F6.ext hEz (by omega)
  have Z7 := Z6.ext hEz (by omega)
  have x7 := x1.below T7
  have y7 := y1.below T7
  have mc7 := F7.cell
  have sz7 : w6.heap.size ≤ wz.heap.size := hEz.size
  generalize wz = w7 at *
  clear hEz hJz mc6 O6
  go_wp2_with fail
  obtain ⟨g8, rfl, gl8, gh8⟩ := O7.ptr (by omega)
  have H8a : Hid (put32 (((grB true true ++ two z ++ two call) ++ four seq) ++ [0, 0, 0, 0]) 12 ack = ((grB true true ++ two z ++ two call) ++ four seq) ++ four ack) := by unfold Hid; simp [put32, putK, two, four, grB]
  have sl8 : w1.heap.size ≤ g8 := by omega
  refine regionX 8 [2] g8 (fun c W => match c with | 0 => Own W w6.heap.size 5 (some ⟨g8, 0, none⟩) 12 c7 ((grB true true ++ two z ++ two call) ++ four seq) | _ + 1 => True) (by kernel_rfl) (by kernel_rfl) (by kernel_rfl) O7 (fun c W W' hj hb => by cases c with | zero => exact Own.below hj hb | succ n => trivial) ?_; (iterate 8 (first | (apply ObsX.skip (by rfl) (by rfl)) | (apply ObsX.v (by rfl) (by rfl); (intro wo hE; (repeat (first | (intro v hv; ((first | (obtain ⟨Aq, cq, rfl, oq, oq'⟩ := hv) | (obtain ⟨Ap, np, cp, rfl, op⟩ := hv; have up : np = 16 := (by rw [← op.len]; rfl); subst up; have obp := op.bs)))) | (intro _ _ k; try have hcv := cv k))); (have mc := (F7.ext hE (by omega)).cell; have hsz := hE.size; have glx := gh8); refine Goes.mk ?_; first | (exact goes_appX _ _ rfl rfl hj (fun k e => by simp [Value.ownBlock] at e; exact e.symm) rfl oq (by omega) (by omega) (fun _ => trivial)) | (go_simp; first | exact goes_v | exact goes_litN hl4 rfl (by omega) (by omega) | (refine goes_enter ?_; first | (go_at_call 34; ((with_reducible refine (put32_any Ap 16 cp _ 12 ack ak0 ak1 wo obp).mono ?_); rintro e w9 ⟨A9, c9, rfl, ho9, hB9⟩); rw [H8a.out] at ho9; exact ret_p (own_isW ho9 hsz) hB9))))) | (apply ObsX.p (q := isN g8 4 [0, 0, 0, 0]) (by rfl) (by rfl) st_isN sx_isN; (intro wo hE; (repeat (first | (intro v hv; ((first | (obtain ⟨Aq, cq, rfl, oq, oq'⟩ := hv) | (obtain ⟨Ap, np, cp, rfl, op⟩ := hv; have up : np = 16 := (by rw [← op.len]; rfl); subst up; have obp := op.bs)))) | (intro _ _ k; try have hcv := cv k))); (have mc := (F7.ext hE (by omega)).cell; have hsz := hE.size; have glx := gh8); refine Goes.mk ?_; first | (exact goes_appX _ _ rfl rfl hj (fun k e => by simp [Value.ownBlock] at e; exact e.symm) rfl oq (by omega) (by omega) (fun _ => trivial)) | (go_simp; first | exact goes_v | exact goes_litN hl4 rfl (by omega) (by omega) | (refine goes_enter ?_; first | (go_at_call 34; ((with_reducible refine (put32_any Ap 16 cp _ 12 ack ak0 ak1 wo obp).mono ?_); rintro e w9 ⟨A9, c9, rfl, ho9, hB9⟩); rw [H8a.out] at ho9; exact ret_p (own_isW ho9 hsz) hB9))))) | (apply ObsX.p (q := isW w7.heap.size _) (by rfl) (by rfl) st_isW (sx_isW gh8); (intro wo hE; (repeat (first | (intro v hv; ((first | (obtain ⟨Aq, cq, rfl, oq, oq'⟩ := hv) | (obtain ⟨Ap, np, cp, rfl, op⟩ := hv; have up : np = 16 := (by rw [← op.len]; rfl); subst up; have obp := op.bs)))) | (intro _ _ k; try have hcv := cv k))); (have mc := (F7.ext hE (by omega)).cell; have hsz := hE.size; have glx := gh8); refine Goes.mk ?_; first | (exact goes_appX _ _ rfl rfl hj (fun k e => by simp [Value.ownBlock] at e; exact e.symm) rfl oq (by omega) (by omega) (fun _ => trivial)) | (go_simp; first | exact goes_v | exact goes_litN hl4 rfl (by omega) (by omega) | (refine goes_enter ?_; first | (go_at_call 34; ((with_reducible refine (put32_any Ap 16 cp _ 12 ack ak0 ak1 wo obp).mono ?_); rintro e w9 ⟨A9, c9, rfl, ho9, hB9⟩); rw [H8a.out] at ho9; exact ret_p (own_isW ho9 hsz) hB9))))) | (apply ObsX.ev (by rfl) (by rfl); (intro wo hE hj; (repeat (first | (intro v hv; ((first | (obtain ⟨Aq, cq, rfl, oq, oq'⟩ := hv) | (obtain ⟨Ap, np, cp, rfl, op⟩ := hv; have up : np = 16 := (by rw [← op.len]; rfl); subst up; have obp := op.bs)))) | (intro _ _ k; try have hcv := cv k))); (have mc := (F7.ext hE (by omega)).cell; have hsz := hE.size; have glx := gh8); refine GoesX.mk ?_; first | (exact goes_appX _ _ rfl rfl hj (fun k e => by simp [Value.ownBlock] at e; exact e.symm) rfl oq (by omega) (by omega) (fun _ => trivial)) | (go_simp; first | exact goes_v | exact goes_litN hl4 rfl (by omega) (by omega) | (refine goes_enter ?_; first | (go_at_call 34; ((with_reducible refine (put32_any Ap 16 cp _ 12 ack ak0 ak1 wo obp).mono ?_); rintro e w9 ⟨A9, c9, rfl, ho9, hB9⟩); rw [H8a.out] at ho9; exact ret_p (own_isW ho9 hsz) hB9))))) | (apply ObsX.ep (q := isN g8 4 [0, 0, 0, 0]) (by rfl) (by rfl) (by rfl) st_isN; (intro wo hE hj; (repeat (first | (intro v hv; ((first | (obtain ⟨Aq, cq, rfl, oq, oq'⟩ := hv) | (obtain ⟨Ap, np, cp, rfl, op⟩ := hv; have up : np = 16 := (by rw [← op.len]; rfl); subst up; have obp := op.bs)))) | (intro _ _ k; try have hcv := cv k))); (have mc := (F7.ext hE (by omega)).cell; have hsz := hE.size; have glx := gh8); refine GoesX.mk ?_; first | (exact goes_appX _ _ rfl rfl hj (fun k e => by simp [Value.ownBlock] at e; exact e.symm) rfl oq (by omega) (by omega) (fun _ => trivial)) | (go_simp; first | exact goes_v | exact goes_litN hl4 rfl (by omega) (by omega) | (refine goes_enter ?_; first | (go_at_call 34; ((with_reducible refine (put32_any Ap 16 cp _ 12 ack ak0 ak1 wo obp).mono ?_); rintro e w9 ⟨A9, c9, rfl, ho9, hB9⟩); rw [H8a.out] at ho9; exact ret_p (own_isW ho9 hsz) hB9))))) | (apply ObsX.ep (q := isW w7.heap.size _) (by rfl) (by rfl) (by rfl) st_isW; (intro wo hE hj; (repeat (first | (intro v hv; ((first | (obtain ⟨Aq, cq, rfl, oq, oq'⟩ := hv) | (obtain ⟨Ap, np, cp, rfl, op⟩ := hv; have up : np = 16 := (by rw [← op.len]; rfl); subst up; have obp := op.bs)))) | (intro _ _ k; try have hcv := cv k))); (have mc := (F7.ext hE (by omega)).cell; have hsz := hE.size; have glx := gh8); refine GoesX.mk ?_; first | (exact goes_appX _ _ rfl rfl hj (fun k e => by simp [Value.ownBlock] at e; exact e.symm) rfl oq (by omega) (by omega) (fun _ => trivial)) | (go_simp; first | exact goes_v | exact goes_litN hl4 rfl (by omega) (by omega) | (refine goes_enter ?_; first | (go_at_call 34; ((with_reducible refine (put32_any Ap 16 cp _ 12 ack ak0 ak1 wo obp).mono ?_); rintro e w9 ⟨A9, c9, rfl, ho9, hB9⟩); rw [H8a.out] at ho9; exact ret_p (own_isW ho9 hsz) hB9))))) | (apply ObsX.ep (q := isW w6.heap.size _) (by rfl) (by rfl) (by rfl) st_isW; (intro wo hE hj; (repeat (first | (intro v hv; ((first | (obtain ⟨Aq, cq, rfl, oq, oq'⟩ := hv) | (obtain ⟨Ap, np, cp, rfl, op⟩ := hv; have up : np = 16 := (by rw [← op.len]; rfl); subst up; have obp := op.bs)))) | (intro _ _ k; try have hcv := cv k))); (have mc := (F7.ext hE (by omega)).cell; have hsz := hE.size; have glx := gh8); refine GoesX.mk ?_; first | (exact goes_appX _ _ rfl rfl hj (fun k e => by simp [Value.ownBlock] at e; exact e.symm) rfl oq (by omega) (by omega) (fun _ => trivial)) | (go_simp; first | exact goes_v | exact goes_litN hl4 rfl (by omega) (by omega) | (refine goes_enter ?_; first | (go_at_call 34; ((with_reducible refine (put32_any Ap 16 cp _ 12 ack ak0 ak1 wo obp).mono ?_); rintro e w9 ⟨A9, c9, rfl, ho9, hB9⟩); rw [H8a.out] at ho9; exact ret_p (own_isW ho9 hsz) hB9))))))); refine ObsX.nil ?_; intro wz hEz hJz; simp only [finOn, List.drop_succ_cons, List.drop_zero, List.drop_nil]
  rintro v1 ⟨A8, n8, c8, rfl, O8⟩ v2 hv2 v3 hv3
  clear hv2 hv3
  have u8 : n8 = 16 := by rw [← O8.len]; rfl
  subst u8
  go_simp
  have T8 := below_ext T7 hEz sl8 T7.size
  have P8 := P7.ext hEz (by omega)
  have F8 := F7.ext hEz (by omega)
  have Z8 := Z7.ext hEz (by omega)
  have x8 := x1.below T8
  have y8 := y1.below T8
  have mc8 := F8.cell
  have sz8 : w7.heap.size ≤ wz.heap.size := hEz.size
  generalize wz = w8 at *
  clear hEz hJz mc7 O7
  obtain ⟨w9, hw9⟩ : ∃ w9, w8.alloc (.cells #[.slice A8 16 c8, .slice B1 m1 d1] 24) = w9 := ⟨_, rfl⟩
  have G9 : Blk w9 w8.heap.size #[.slice A8 16 c8, .slice B1 m1 d1] 24 := by rw [← hw9]; exact blk_new w8 _ _ _ rfl
  have V9 : Below w8.heap.size w8 w9 := by rw [← hw9]; (repeat (first | with_reducible exact Below.refl _ _ | with_reducible refine below_drew ?_ | with_reducible refine below_drewN ?_ _ | with_reducible refine below_alloc ?_ (Nat.le_refl _) _ | with_reducible refine Below.setCell ?_ (by first | exact Nat.le_refl _ | (simp only []; omega)) _ | with_reducible assumption))
  have o8 := O8.bs
  have hcat := isCat2 G9 (o8.below V9) (y8.below V9) (cc := 2) (by omega)
  have T9 := below_then T8 V9
  have pc8 := P8.cell
  have s9 := (below_then R1 T9).size
  have kz : k + 1 + 1 < w9.heap.size := (Z8.below V9).lt
  go_wp2_with (go_at_call 68; ((with_reducible refine (hw2 w9 _ hcat (x8.below V9)).mono ?_); rintro e w10 ⟨⟨C1, e1, f1, C2, e2, f2, rfl, O1, O2, hB10⟩⟩); have T10 := below_then T9 hB10; have Z10 := Z1.below T10; have zc10 := Z10.cell)
  obtain ⟨wf, hwf, Sf⟩ := store9 Z10 (.int .u8 Q.tos) (.int .u16 Q.id) (.bool Q.keep) (.int .u8 Q.ttl) (.int .u8 Q.proto) (.int .u32 Q.src) (.int .u32 Q.dst) (.slice C1 e1 f1) (.slice C2 e2 f2)
  rw [hwf]
  have pf := Sf.blk.cell
  have Of := Sf.own O1 (fun a e => by have := O1.ge a e; omega)
  have Df := Sf.own O2 (fun a e => by have := O2.ge a e; omega)
  refine bodyPost_ret (v := .tuple #[(.agg #[.int .u8 (Q).tos, .int .u16 (Q).id, .bool (Q).keep, .int .u8 (Q).ttl, .int .u8 (Q).proto, .int .u32 (Q).src, .int .u32 (Q).dst, .slice C1 e1 f1, .slice C2 e2 f2]), .int .i64 E]) (by simp [results, Try.results49, go_sem, pf]) rfl ⟨⟨C1, e1, f1, C2, e2, f2, rfl, Of.mono s9, Df.mono s9, Sf.bel (below_then R1 T10) (by omega)⟩⟩
theorem bg_any (p : Pkt) (A1 : Option Addr) (n1 c1 : Nat) (A2 : Option Addr) (n2 c2 : Nat) (f : Frm) (hf : f.Ok) (B1 : Option Addr) (m1 d1 : Nat) (w : World) (k1 : Bs w A1 n1 c1 p.opt) (j1 : Bs w B1 m1 d1 f.dat) (hm1 : m1 ≤ 140737488400000) :
    Calls Try.prog 49 #[(.agg #[.int .u8 (p).tos, .int .u16 (p).id, .bool (p).keep, .int .u8 (p).ttl, .int .u8 (p).proto, .int .u32 (p).src, .int .u32 (p).dst, .slice A1 n1 c1, .slice A2 n2 c2]), (.agg #[.int .u16 (f).call, .bool (f).hs, .bool (f).ha, .int .u32 (f).seq, .int .u32 (f).ack, .slice B1 m1 d1])] w (WiPost w (bgP p f) (bgE p f)) := by
  cases hb : gBad f with
  | true =>
    unfold bgP bgE
    rw [hb, if_pos rfl, if_pos rfl]
    exact bg_bad p A1 n1 c1 A2 n2 c2 f B1 m1 d1 w k1 j1 hb
  | false =>
    have hw2 : ∀ W lv, isCat lv (gL f) W → Bs W A1 n1 c1 p.opt → Calls Try.prog 68 #[(.agg #[.int .u8 (p).tos, .int .u16 (p).id, .bool (p).keep, .int .u8 (p).ttl, .int .u8 (p).proto, .int .u32 (p).src, .int .u32 (p).dst, .slice A1 n1 c1, .slice A2 n2 c2]), .int .u8 47, lv] W (WiPost W (bgP p f) (bgE p f)) := fun W lv hc kk => by
      have hn : gN f ≤ 140737488400016 := by
        unfold gN; rw [j1.len]; split <;> split <;> omega
      have hh := with_any p A1 n1 c1 A2 n2 c2 47 lv (gL f) W kk hc (by rw [gL_len]; omega)
      unfold bgP bgE
      rw [hb, if_neg (by decide), if_neg (by decide)]
      rw [gL_len] at hh
      exact hh
    have jl := j1.len
    obtain ⟨call, hs, ha, seq, ack, dat⟩ := f
    simp only at jl
    subst jl
    obtain ⟨c0, s0, a0⟩ := hf
    cases hs <;> cases ha
    · have h1 : (seq != 0) = false ∧ (ack != 0) = false := by
        revert hb; unfold gBad; cases (seq != 0) <;> cases (ack != 0) <;> simp
      exact bg_ok00 p A1 n1 c1 A2 n2 c2 call c0 seq ack s0 a0 h1.1 h1.2 dat B1 _ d1 w k1 j1 _ _ (fun W lv hc kk => hw2 W lv (by simpa [gL, gH] using hc) kk) hm1
    · have h1 : (seq != 0) = false := by
        revert hb; unfold gBad; cases (seq != 0) <;> simp
      exact bg_ok01 p A1 n1 c1 A2 n2 c2 call c0 seq ack s0 a0 h1 dat B1 _ d1 w k1 j1 _ _ (fun W lv hc kk => hw2 W lv (by simpa [gL, gH] using hc) kk) hm1
    · have h1 : (ack != 0) = false := by
        revert hb; unfold gBad; cases (ack != 0) <;> simp
      exact bg_ok10 p A1 n1 c1 A2 n2 c2 call c0 seq ack s0 a0 h1 dat B1 _ d1 w k1 j1 _ _ (fun W lv hc kk => hw2 W lv (by simpa [gL, gH] using hc) kk) hm1
    · exact bg_ok11 p A1 n1 c1 A2 n2 c2 call c0 seq ack s0 a0 dat B1 _ d1 w k1 j1 _ _ (fun W lv hc kk => hw2 W lv (by simpa [gL, gH] using hc) kk) hm1
end Go.Proofs.Ytjhpmeagopdaiaa

namespace Go.Proofs.Ytjhpmeagopdaiaa
open Go.RowKit
set_option linter.unusedVariables false
set_option linter.unusedSimpArgs false
set_option maxHeartbeats 4000000
set_option maxRecDepth 100000

theorem next_any (has : Bool) (gb ga : Nat) (A : Option Addr) (n c : Nat) (l : List UInt8) (v : Int) (v0 : 0 ≤ v) (v1 : v ≤ 100) (w : World) (K : Blk w gb #[.slice A n c] 24) (L : Blk w ga #[.int .i64 v] 3) (hne : gb ≠ ga) (hb : Bs w A n c l) :
    Calls Try.prog 88 #[.bool has, .pointer (some ⟨gb, 0, none⟩), .pointer (some ⟨ga, 0, none⟩)] w fun e w' => e = .returned (.int .u32 (if has then get32 l v else 0)) ∧ w.grownBy w' (some ga) ∧ Blk w' ga #[.int .i64 (if has then v + 4 else v)] 3 := by
  have kc := K.cell
  have lc := L.cell
  cases has with
  | false =>
    go_enter Try.func88, Try.ntmps88
    go_wp2_with fail
    go_ret
    exact ⟨rfl, ext_refl _ _, L⟩
  | true =>
    go_enter Try.func88, Try.ntmps88
    go_wp2_with (go_at_call 59; ((with_reducible refine (get32_any A n c l v _ hb).mono ?_); rintro e w1 ⟨rfl, hD⟩); have L1 := L.below hD.bel; have lc1 := L1.cell)
    go_ret
    refine ⟨rfl, ext_trans (ext_below hD.bel) (grownBy_setCell _ ⟨ga, 0, none⟩ _), ?_⟩
    have := L1.set_ 0 (.int .i64 (v + 4))
    simpa using this
def sB (l : List UInt8) : Bool := bt l 0 == 48
def aB (l : List UInt8) : Bool := bt l 1 == 129
def begB (l : List UInt8) : Bool := (bt l 0 == 32 || bt l 0 == 48) && (bt l 1 == 1 || bt l 1 == 129) && bt l 2 == 136 && bt l 3 == 11
def hdG (l : List UInt8) : Nat := 8 + (if sB l then 4 else 0) + (if aB l then 4 else 0)
def geE (p : Pkt) : Int := if p.proto ≠ 47 then 12 else if (p.dat.length : Int) < 8 then 3 else if begB p.dat = false then 4 else if (p.dat.length : Int) < hdG p.dat + get16 p.dat 4 then 3 else if hdG p.dat + get16 p.dat 4 < (p.dat.length : Int) then 4 else 0
def rdF (l : List UInt8) : Frm := ⟨get16 l 6, sB l, aB l, if sB l then get32 l 8 else 0, if aB l then get32 l (if sB l then 12 else 8) else 0, l.drop (hdG l)⟩
def geF (p : Pkt) : Frm := if geE p = 0 then rdF p.dat else zF
theorem rdF_ok (l : List UInt8) : (rdF l).Ok := by
  refine ⟨⟨get16_lo _ _, get16_hi _ _⟩, ?_, ?_⟩
  · show 0 ≤ (if sB l then get32 l 8 else 0) ∧ (if sB l then get32 l 8 else 0) ≤ 4294967295
    split
    · exact ⟨get32_lo _ _, get32_hi _ _⟩
    · exact ⟨by decide, by decide⟩
  · show 0 ≤ (if aB l then get32 l (if sB l then 12 else 8) else 0) ∧ (if aB l then get32 l (if sB l then 12 else 8) else 0) ≤ 4294967295
    split
    · exact ⟨get32_lo _ _, get32_hi _ _⟩
    · exact ⟨by decide, by decide⟩
theorem geF_ok (p : Pkt) : (geF p).Ok := by
  unfold geF; split
  · exact rdF_ok _
  · exact zF_ok
structure FrPost (w : World) (F : Frm) (E : Int) (e : Ending) (w' : World) : Prop where
  out : ∃ B m d, e = .returned (.tuple #[(.agg #[.int .u16 (F).call, .bool (F).hs, .bool (F).ha, .int .u32 (F).seq, .int .u32 (F).ack, .slice B m d]), .int .i64 E]) ∧ Own w' w.heap.size 5 B m d F.dat ∧ Below w.heap.size w w'
theorem frPost_no {w w' : World} {E : Int} (hB : Below w.heap.size w w') : FrPost w zF E (.returned (.tuple #[.agg #[.int .u16 0, .bool false, .bool false, .int .u32 0, .int .u32 0, .slice none 0 0], .int .i64 E])) w' :=
  ⟨none, 0, 0, rfl, own_nil _ _ _, hB⟩
def sW (l : List UInt8) : Bool := bits .and .u8 (bt l 0) 16 != 0
def aW (l : List UInt8) : Bool := bits .and .u8 (bt l 1) 128 != 0
def eqW (l : List UInt8) : Bool := bt l 0 == b0F (sW l) && bt l 1 == b1F (aW l) && bt l 2 == 136 && bt l 3 == 11
theorem s_tab : ∀ a : Fin 256, ((a.val : Int) == b0F (bits .and .u8 (a.val : Int) 16 != 0)) = ((a.val : Int) == 32 || (a.val : Int) == 48) ∧ (((a.val : Int) == 32 || (a.val : Int) == 48) = true → (bits .and .u8 (a.val : Int) 16 != 0) = ((a.val : Int) == 48)) := by decide +kernel
theorem a_tab : ∀ a : Fin 256, ((a.val : Int) == b1F (bits .and .u8 (a.val : Int) 128 != 0)) = ((a.val : Int) == 1 || (a.val : Int) == 129) ∧ (((a.val : Int) == 1 || (a.val : Int) == 129) = true → (bits .and .u8 (a.val : Int) 128 != 0) = ((a.val : Int) == 129)) := by decide +kernel
theorem eqW_begB (l : List UInt8) : eqW l = begB l ∧ (begB l = true → sW l = sB l ∧ aW l = aB l) := by
  have h0 := s_tab ⟨(bt l 0).toNat, by have := bt_lo l 0; have := bt_hi l 0; omega⟩
  have h1 := a_tab ⟨(bt l 1).toNat, by have := bt_lo l 1; have := bt_hi l 1; omega⟩
  have e0 : (((bt l 0).toNat : Nat) : Int) = bt l 0 := by have := bt_lo l 0; omega
  have e1 : (((bt l 1).toNat : Nat) : Int) = bt l 1 := by have := bt_lo l 1; omega
  simp only [e0] at h0
  simp only [e1] at h1
  constructor
  · unfold eqW begB sW aW
    rw [h0.1, h1.1]
  · intro h
    unfold begB at h
    simp only [Bool.and_eq_true] at h
    exact ⟨h0.2 h.1.1.1, h1.2 h.1.1.2⟩
theorem eq_first (l : List UInt8) (s a : Bool) (W : World) : (Op.equalIn 10000 126 (.agg #[.int .u8 (bt l 0), .int .u8 (bt l 1), .int .u8 (bt l 2), .int .u8 (bt l 3)]) (.agg #[.int .u8 (b0F s), .int .u8 (b1F a), .int .u8 136, .int .u8 11])).run Try.prog W =
    .ok (bt l 0 == b0F s && bt l 1 == b1F a && bt l 2 == 136 && bt l 3 == 11) W := by
  obtain ⟨i8, hi8, _, hs8, _⟩ := info_parts info_u8
  have := run_eq_ints (P := Try.prog) W 9998 126 5 .u8 4
    #[.int .u8 (bt l 0), .int .u8 (bt l 1), .int .u8 (bt l 2), .int .u8 (bt l 3)] #[.int .u8 (b0F s), .int .u8 (b1F a), .int .u8 136, .int .u8 11]
    (fun i => [bt l 0, bt l 1, bt l 2, bt l 3].getD i 0) (fun i => [b0F s, b1F a, 136, 11].getD i 0)
    Try.underlying126 Try.underlying5 hi8 hs8 (fun i hi => by
      match i, hi with
      | 0, _ | 1, _ | 2, _ | 3, _ => rfl) (fun i hi => by
      match i, hi with
      | 0, _ | 1, _ | 2, _ | 3, _ => rfl)
  refine this.trans ?_
  congr 1
  rw [Bool.eq_iff_iff]
  simp [List.range, List.range.loop, and_assoc]
end Go.Proofs.Ytjhpmeagopdaiaa

namespace Go.Proofs.Ytjhpmeagopdaiaa
open Go.RowKit
set_option linter.unusedVariables false
set_option linter.unusedSimpArgs false
set_option linter.unusedSimpArgs false
set_option maxHeartbeats 4000000
set_option maxRecDepth 100000

theorem gre_no (p : Pkt) (A1 : Option Addr) (n1 c1 : Nat) (A2 : Option Addr) (n2 c2 : Nat) (w : World) (k2 : Bs w A2 n2 c2 p.dat) (E : Int)
    (h : (E = 12 ∧ (p.proto != 47) = true) ∨ (E = 3 ∧ (p.proto != 47) = false ∧ (n2 : Int) < 8)) :
    Calls Try.prog 48 #[(.agg #[.int .u8 (p).tos, .int .u16 (p).id, .bool (p).keep, .int .u8 (p).ttl, .int .u8 (p).proto, .int .u32 (p).src, .int .u32 (p).dst, .slice A1 n1 c1, .slice A2 n2 c2])] w (FrPost w zF E) := by
  have b2 := k2.max
  obtain ⟨k, hk⟩ : ∃ k : Nat, w.heap.size = k := ⟨_, rfl⟩
  obtain ⟨w1, hw1⟩ : ∃ w1, (w.alloc (.cells #[.int .u8 (p).tos, .int .u16 (p).id, .bool (p).keep, .int .u8 (p).ttl, .int .u8 (p).proto, .int .u32 (p).src, .int .u32 (p).dst, .slice A1 n1 c1, .slice A2 n2 c2] 26)).alloc (.cells #[.int .u16 0, .bool false, .bool false, .int .u32 0, .int .u32 0, .slice none 0 0] 63) = w1 := ⟨_, rfl⟩
  have P1 : Blk w1 k #[.int .u8 (p).tos, .int .u16 (p).id, .bool (p).keep, .int .u8 (p).ttl, .int .u8 (p).proto, .int .u32 (p).src, .int .u32 (p).dst, .slice A1 n1 c1, .slice A2 n2 c2] 26 := by rw [← hw1]; exact (blk_new w _ _ k hk).alloc _
  have Z1 : Blk w1 (k + 1) #[.int .u16 0, .bool false, .bool false, .int .u32 0, .int .u32 0, .slice none 0 0] 63 := by rw [← hw1]; exact blk_new _ _ _ (k + 1) (by simp [hk])
  have R1 : Below w.heap.size w w1 := by rw [← hw1]; (repeat (first | with_reducible exact Below.refl _ _ | with_reducible refine below_drew ?_ | with_reducible refine below_drewN ?_ _ | with_reducible refine below_alloc ?_ (Nat.le_refl _) _ | with_reducible refine Below.setCell ?_ (by first | exact Nat.le_refl _ | (simp only []; omega)) _ | with_reducible assumption))
  have pc := P1.cell
  have zc := Z1.cell
  have kl1 := P1.lt
  have zl1 := Z1.lt
  obtain ⟨gb, hgb⟩ : ∃ gb : Nat, w1.heap.size = gb := ⟨_, rfl⟩
  obtain ⟨w2, hw2⟩ : ∃ w2, w1.alloc (.cells #[.slice A2 n2 c2] 24) = w2 := ⟨_, rfl⟩
  have K2 : Blk w2 gb #[.slice A2 n2 c2] 24 := by rw [← hw2]; exact blk_new w1 _ _ gb hgb
  have V2 : Below w1.heap.size w1 w2 := by rw [← hw2]; (repeat (first | with_reducible exact Below.refl _ _ | with_reducible refine below_drew ?_ | with_reducible refine below_drewN ?_ _ | with_reducible refine below_alloc ?_ (Nat.le_refl _) _ | with_reducible refine Below.setCell ?_ (by first | exact Nat.le_refl _ | (simp only []; omega)) _ | with_reducible assumption))
  have T2 := below_then R1 V2
  have P2 := P1.below V2
  have Z2 := Z1.below V2
  have pc2 := P2.cell
  have zc2 := Z2.cell
  have kc2 := K2.cell
  obtain ⟨wf, hwf, Sf⟩ := store6 Z2 (.int .u16 0) (.bool false) (.bool false) (.int .u32 0) (.int .u32 0) (.slice none 0 0)
  have pf := Sf.blk.cell
  have Tf := Sf.bel T2 (by omega)
  rcases h with ⟨rfl, h1⟩ | ⟨rfl, h1, h2⟩
  all_goals go_enter Try.func48, Try.ntmps48
  all_goals go_wp2_with fail
  all_goals exact bodyPost_ret (by simp [results, Try.results48, go_sem, pf]) rfl (frPost_no Tf)
theorem gre_form (p : Pkt) (A1 : Option Addr) (n1 c1 : Nat) (A2 : Option Addr) (n2 c2 : Nat) (w : World) (k2 : Bs w A2 n2 c2 p.dat) (h1 : (p.proto != 47) = false) (h2 : 8 ≤ (n2 : Int)) (HH : eqW p.dat = false) :
    Calls Try.prog 48 #[(.agg #[.int .u8 (p).tos, .int .u16 (p).id, .bool (p).keep, .int .u8 (p).ttl, .int .u8 (p).proto, .int .u32 (p).src, .int .u32 (p).dst, .slice A1 n1 c1, .slice A2 n2 c2])] w (FrPost w zF 4) := by
  have b2 := k2.max
  have hcap := k2.cap
  have hlL : p.dat.take n2 = p.dat := List.take_of_length_le (by rw [k2.len]; exact Nat.le_refl _)
  obtain ⟨i8, hi8, -, hs8, -⟩ := info_parts info_u8
  obtain ⟨b, off, rfl⟩ := k2.some_ (by omega)
  have hcut4 : ∀ W, (Instr.slice 24 (.slice (some ⟨b, off, none⟩) n2 c2) none (some (.int .i64 4)) none).run Try.prog W = .ok (.slice (some ⟨b, off, none⟩) 4 c2) W := fun W => by
    rw [cut_h Try.underlying24 hi8 hs8 (some ⟨b, off, none⟩) n2 c2 .i64 4 (by omega) (by omega) W]; simp [Addr.add]
  have harr : ∀ W, (Instr.arrayAt 126 (.slice (some ⟨b, off, none⟩) 4 c2)).run Try.prog W = .ok (.pointer (some ⟨b, off, none⟩)) W := by
    intro W
    simp [Instr.arrayAt, run_underlying Try.underlying126, Result.andThen]
  obtain ⟨l, hl⟩ : ∃ l, p.dat = l := ⟨_, rfl⟩
  rw [hl] at k2 hlL HH
  obtain ⟨s, hs⟩ : ∃ s, (bits .and .u8 (bt l 0) 16 != 0) = s := ⟨_, rfl⟩
  obtain ⟨a, ha⟩ : ∃ a, (bits .and .u8 (bt l 1) 128 != 0) = a := ⟨_, rfl⟩
  obtain ⟨ev, hev⟩ : ∃ ev, (bt l 0 == b0F s && bt l 1 == b1F a && bt l 2 == 136 && bt l 3 == 11) = ev := ⟨_, rfl⟩
  have heq := eq_first l s a
  rw [hev] at heq
  have hle : eqW l = ev := by unfold eqW sW aW; rw [hs, ha, hev]
  have q0 : 0 < n2 := by omega
  have q0' : (0 : Int) < n2 := by omega
  have q1 : (1 : Int) < n2 := by omega
  have g40 := get16_lo l 4
  have g41 := get16_hi l 4
  obtain ⟨nn, hnn⟩ : ∃ nn, get16 l 4 = nn := ⟨_, rfl⟩
  rw [hnn] at g40 g41
  have HLL := Lib.hid hl
  clear hl
  have HNN := Lib.hid hnn
  have HEV := Lib.hid hev
  have HLE := Lib.hid hle
  clear hev hle hnn
  obtain ⟨k, hk⟩ : ∃ k : Nat, w.heap.size = k := ⟨_, rfl⟩
  obtain ⟨w1, hw1⟩ : ∃ w1, (w.alloc (.cells #[.int .u8 (p).tos, .int .u16 (p).id, .bool (p).keep, .int .u8 (p).ttl, .int .u8 (p).proto, .int .u32 (p).src, .int .u32 (p).dst, .slice A1 n1 c1, .slice (some ⟨b, off, none⟩) n2 c2] 26)).alloc (.cells #[.int .u16 0, .bool false, .bool false, .int .u32 0, .int .u32 0, .slice none 0 0] 63) = w1 := ⟨_, rfl⟩
  have P1 : Blk w1 k #[.int .u8 (p).tos, .int .u16 (p).id, .bool (p).keep, .int .u8 (p).ttl, .int .u8 (p).proto, .int .u32 (p).src, .int .u32 (p).dst, .slice A1 n1 c1, .slice (some ⟨b, off, none⟩) n2 c2] 26 := by rw [← hw1]; exact (blk_new w _ _ k hk).alloc _
  have Z1 : Blk w1 (k + 1) #[.int .u16 0, .bool false, .bool false, .int .u32 0, .int .u32 0, .slice none 0 0] 63 := by rw [← hw1]; exact blk_new _ _ _ (k + 1) (by simp [hk])
  have R1 : Below w.heap.size w w1 := by rw [← hw1]; (repeat (first | with_reducible exact Below.refl _ _ | with_reducible refine below_drew ?_ | with_reducible refine below_drewN ?_ _ | with_reducible refine below_alloc ?_ (Nat.le_refl _) _ | with_reducible refine Below.setCell ?_ (by first | exact Nat.le_refl _ | (simp only []; omega)) _ | with_reducible assumption))
  have pc := P1.cell
  have zc := Z1.cell
  have kl1 := P1.lt
  have zl1 := Z1.lt
  obtain ⟨gb, hgb⟩ : ∃ gb : Nat, w1.heap.size = gb := ⟨_, rfl⟩
  obtain ⟨w2, hw2⟩ : ∃ w2, w1.alloc (.cells #[.slice (some ⟨b, off, none⟩) n2 c2] 24) = w2 := ⟨_, rfl⟩
  have K2 : Blk w2 gb #[.slice (some ⟨b, off, none⟩) n2 c2] 24 := by rw [← hw2]; exact blk_new w1 _ _ gb hgb
  have V2 : Below w1.heap.size w1 w2 := by rw [← hw2]; (repeat (first | with_reducible exact Below.refl _ _ | with_reducible refine below_drew ?_ | with_reducible refine below_drewN ?_ _ | with_reducible refine below_alloc ?_ (Nat.le_refl _) _ | with_reducible refine Below.setCell ?_ (by first | exact Nat.le_refl _ | (simp only []; omega)) _ | with_reducible assumption))
  have T2 := below_then R1 V2
  have P2 := P1.below V2
  have Z2 := Z1.below V2
  have pc2 := P2.cell
  have zc2 := Z2.cell
  have kc2 := K2.cell
  have x2 := k2.below T2
  go_enter Try.func48, Try.ntmps48
  go_wp2_with fail
  refine region_txt 14 (by kernel_rfl) (by kernel_rfl) ?_; (iterate 14 (first | (apply ObsK.skip (by rfl)) | (apply ObsK.v (by rfl); (intro wo hT; (repeat (first | (intro v hv; (fail)) | (intro _ _ k; try have hcv := cv k))); (have kc := (K2.below hT).cell; have bo := x2.below hT; have c0 := bo.at_ (j := 0) (by omega); rw [Nat.add_zero] at c0; have c1 := bo.at_ (j := 1) (by omega); have hsz : w2.heap.size ≤ wo.heap.size := hT.size); refine Goes.mk ?_; go_simp; first | exact goes_v | exact goes_b (by assumption) | exact goes_new hsz | (refine goes_enter ?_; first | (go_at_call 67; ((with_reducible refine (get16_any (some ⟨b, off, none⟩) n2 c2 l 6 wo bo).mono ?_); rintro e w5 ⟨rfl, hD5⟩); exact ret_v hD5.bel)))) | (apply ObsK.b (by rfl); (intro wo hT; (repeat (first | (intro v hv; (fail)) | (intro _ _ k; try have hcv := cv k))); (have kc := (K2.below hT).cell; have bo := x2.below hT; have c0 := bo.at_ (j := 0) (by omega); rw [Nat.add_zero] at c0; have c1 := bo.at_ (j := 1) (by omega); have hsz : w2.heap.size ≤ wo.heap.size := hT.size); refine Goes.mk ?_; go_simp; first | exact goes_v | exact goes_b (by assumption) | exact goes_new hsz | (refine goes_enter ?_; first | (go_at_call 67; ((with_reducible refine (get16_any (some ⟨b, off, none⟩) n2 c2 l 6 wo bo).mono ?_); rintro e w5 ⟨rfl, hD5⟩); exact ret_v hD5.bel)))) | (apply ObsK.p (q := isNew w2.heap.size _ _) (by rfl) st_isNew; (intro wo hT; (repeat (first | (intro v hv; (fail)) | (intro _ _ k; try have hcv := cv k))); (have kc := (K2.below hT).cell; have bo := x2.below hT; have c0 := bo.at_ (j := 0) (by omega); rw [Nat.add_zero] at c0; have c1 := bo.at_ (j := 1) (by omega); have hsz : w2.heap.size ≤ wo.heap.size := hT.size); refine Goes.mk ?_; go_simp; first | exact goes_v | exact goes_b (by assumption) | exact goes_new hsz | (refine goes_enter ?_; first | (go_at_call 67; ((with_reducible refine (get16_any (some ⟨b, off, none⟩) n2 c2 l 6 wo bo).mono ?_); rintro e w5 ⟨rfl, hD5⟩); exact ret_v hD5.bel)))))); refine ObsK.nil ?_; intro wz hBz; simp only [finOn, List.drop_succ_cons, List.drop_zero, List.drop_nil]
  rintro vp ⟨gf, rfl, gfB, G⟩
  go_simp
  obtain ⟨w4, hw4, S4⟩ := store6 G (.int .u16 (get16 l 6)) (.bool s) (.bool a) (.int .u32 0) (.int .u32 0) (.slice none 0 0)
  have gc0 := G.cell
  have zl2 := Z2.lt
  have kl2 := K2.lt
  have kk : w.heap.size ≤ w2.heap.size := T2.size
  have F4 := S4.blk
  have Z4 := S4.other (by omega) (Z2.below hBz)
  have K4 := S4.other (by omega) (K2.below hBz)
  have T4 := S4.bel (below_then T2 hBz) (by omega)
  have x4 := k2.below T4
  go_wp2_with fail
  have hgbk : k + 1 < gb := by omega
  clear hw4 S4 gc0 G hBz pc zc pc2 zc2 kc2 hw1 hw2 hgb P2 P1
  refine region_txt 10 (by kernel_rfl) (by kernel_rfl) ?_; (iterate 10 (first | (apply ObsK.skip (by rfl)) | (apply ObsK.v (by rfl); (intro wo hT; (repeat (first | (intro _ _ k; try have hcv := cv k))); (have kc := (K4.below hT).cell; have fc := (F4.below hT).cell; have bo := x4.below hT; have c0 := bo.at_ (j := 0) (by omega); rw [Nat.add_zero] at c0; have c1 := bo.at_ (j := 1) (by omega); have c2' := bo.at_ (j := 2) (by omega); have c3 := bo.at_ (j := 3) (by omega)); refine Goes.mk ?_; go_simp; first | exact goes_v | exact goes_b (by assumption) | (refine goes_enter ?_; first | (go_at_call 87; ((with_reducible refine (begin_any s a wo).mono ?_); rintro e w5 ⟨rfl, hB5⟩); exact ret_v hB5)))) | (apply ObsK.b (by rfl); (intro wo hT; (repeat (first | (intro _ _ k; try have hcv := cv k))); (have kc := (K4.below hT).cell; have fc := (F4.below hT).cell; have bo := x4.below hT; have c0 := bo.at_ (j := 0) (by omega); rw [Nat.add_zero] at c0; have c1 := bo.at_ (j := 1) (by omega); have c2' := bo.at_ (j := 2) (by omega); have c3 := bo.at_ (j := 3) (by omega)); refine Goes.mk ?_; go_simp; first | exact goes_v | exact goes_b (by assumption) | (refine goes_enter ?_; first | (go_at_call 87; ((with_reducible refine (begin_any s a wo).mono ?_); rintro e w5 ⟨rfl, hB5⟩); exact ret_v hB5)))))); refine ObsK.nil ?_; intro wz hBz; simp only [finOn, List.drop_succ_cons, List.drop_zero, List.drop_nil]
  go_simp
  have F5 := F4.below hBz
  have Z5 := Z4.below hBz
  have K5 := K4.below hBz
  have T5 := below_then T4 hBz
  have x5 := k2.below T5
  have zc5 := Z5.cell
  have sz5 := hBz.size
  have zl4 := Z4.lt
  generalize wz = w5 at *
  clear hBz heq harr hcut4
  have hevf : ev = false := by rw [← HLE.out]; exact HH
  subst hevf
  go_wp2_with fail
  obtain ⟨wf, hwf, Sf⟩ := store6 Z5 (.int .u16 0) (.bool false) (.bool false) (.int .u32 0) (.int .u32 0) (.slice none 0 0)
  rw [hwf]
  have pf := Sf.blk.cell
  exact bodyPost_ret (by simp [results, Try.results48, go_sem, pf]) rfl (frPost_no (Sf.bel T5 (by omega)))
theorem gre_yes (p : Pkt) (A1 : Option Addr) (n1 c1 : Nat) (A2 : Option Addr) (n2 c2 : Nat) (w : World) (k2 : Bs w A2 n2 c2 p.dat) (h1 : (p.proto != 47) = false) (h2 : 8 ≤ (n2 : Int)) (HH : eqW p.dat = true) :
    Calls Try.prog 48 #[(.agg #[.int .u8 (p).tos, .int .u16 (p).id, .bool (p).keep, .int .u8 (p).ttl, .int .u8 (p).proto, .int .u32 (p).src, .int .u32 (p).dst, .slice A1 n1 c1, .slice A2 n2 c2])] w (FrPost w (geF p) (geE p)) := by
  have b2 := k2.max
  have hcap := k2.cap
  have hlL : p.dat.take n2 = p.dat := List.take_of_length_le (by rw [k2.len]; exact Nat.le_refl _)
  obtain ⟨i8, hi8, -, hs8, -⟩ := info_parts info_u8
  obtain ⟨b, off, rfl⟩ := k2.some_ (by omega)
  have hcut4 : ∀ W, (Instr.slice 24 (.slice (some ⟨b, off, none⟩) n2 c2) none (some (.int .i64 4)) none).run Try.prog W = .ok (.slice (some ⟨b, off, none⟩) 4 c2) W := fun W => by
    rw [cut_h Try.underlying24 hi8 hs8 (some ⟨b, off, none⟩) n2 c2 .i64 4 (by omega) (by omega) W]; simp [Addr.add]
  have harr : ∀ W, (Instr.arrayAt 126 (.slice (some ⟨b, off, none⟩) 4 c2)).run Try.prog W = .ok (.pointer (some ⟨b, off, none⟩)) W := by
    intro W
    simp [Instr.arrayAt, run_underlying Try.underlying126, Result.andThen]
  obtain ⟨l, hl⟩ : ∃ l, p.dat = l := ⟨_, rfl⟩
  rw [hl] at k2 hlL HH
  obtain ⟨s, hs⟩ : ∃ s, (bits .and .u8 (bt l 0) 16 != 0) = s := ⟨_, rfl⟩
  obtain ⟨a, ha⟩ : ∃ a, (bits .and .u8 (bt l 1) 128 != 0) = a := ⟨_, rfl⟩
  obtain ⟨ev, hev⟩ : ∃ ev, (bt l 0 == b0F s && bt l 1 == b1F a && bt l 2 == 136 && bt l 3 == 11) = ev := ⟨_, rfl⟩
  have heq := eq_first l s a
  rw [hev] at heq
  have hle : eqW l = ev := by unfold eqW sW aW; rw [hs, ha, hev]
  have q0 : 0 < n2 := by omega
  have q0' : (0 : Int) < n2 := by omega
  have q1 : (1 : Int) < n2 := by omega
  have g40 := get16_lo l 4
  have g41 := get16_hi l 4
  obtain ⟨nn, hnn⟩ : ∃ nn, get16 l 4 = nn := ⟨_, rfl⟩
  rw [hnn] at g40 g41
  have HLL := Lib.hid hl
  clear hl
  have HNN := Lib.hid hnn
  have HEV := Lib.hid hev
  have HLE := Lib.hid hle
  clear hev hle hnn
  obtain ⟨k, hk⟩ : ∃ k : Nat, w.heap.size = k := ⟨_, rfl⟩
  obtain ⟨w1, hw1⟩ : ∃ w1, (w.alloc (.cells #[.int .u8 (p).tos, .int .u16 (p).id, .bool (p).keep, .int .u8 (p).ttl, .int .u8 (p).proto, .int .u32 (p).src, .int .u32 (p).dst, .slice A1 n1 c1, .slice (some ⟨b, off, none⟩) n2 c2] 26)).alloc (.cells #[.int .u16 0, .bool false, .bool false, .int .u32 0, .int .u32 0, .slice none 0 0] 63) = w1 := ⟨_, rfl⟩
  have P1 : Blk w1 k #[.int .u8 (p).tos, .int .u16 (p).id, .bool (p).keep, .int .u8 (p).ttl, .int .u8 (p).proto, .int .u32 (p).src, .int .u32 (p).dst, .slice A1 n1 c1, .slice (some ⟨b, off, none⟩) n2 c2] 26 := by rw [← hw1]; exact (blk_new w _ _ k hk).alloc _
  have Z1 : Blk w1 (k + 1) #[.int .u16 0, .bool false, .bool false, .int .u32 0, .int .u32 0, .slice none 0 0] 63 := by rw [← hw1]; exact blk_new _ _ _ (k + 1) (by simp [hk])
  have R1 : Below w.heap.size w w1 := by rw [← hw1]; (repeat (first | with_reducible exact Below.refl _ _ | with_reducible refine below_drew ?_ | with_reducible refine below_drewN ?_ _ | with_reducible refine below_alloc ?_ (Nat.le_refl _) _ | with_reducible refine Below.setCell ?_ (by first | exact Nat.le_refl _ | (simp only []; omega)) _ | with_reducible assumption))
  have pc := P1.cell
  have zc := Z1.cell
  have kl1 := P1.lt
  have zl1 := Z1.lt
  obtain ⟨gb, hgb⟩ : ∃ gb : Nat, w1.heap.size = gb := ⟨_, rfl⟩
  obtain ⟨w2, hw2⟩ : ∃ w2, w1.alloc (.cells #[.slice (some ⟨b, off, none⟩) n2 c2] 24) = w2 := ⟨_, rfl⟩
  have K2 : Blk w2 gb #[.slice (some ⟨b, off, none⟩) n2 c2] 24 := by rw [← hw2]; exact blk_new w1 _ _ gb hgb
  have V2 : Below w1.heap.size w1 w2 := by rw [← hw2]; (repeat (first | with_reducible exact Below.refl _ _ | with_reducible refine below_drew ?_ | with_reducible refine below_drewN ?_ _ | with_reducible refine below_alloc ?_ (Nat.le_refl _) _ | with_reducible refine Below.setCell ?_ (by first | exact Nat.le_refl _ | (simp only []; omega)) _ | with_reducible assumption))
  have T2 := below_then R1 V2
  have P2 := P1.below V2
  have Z2 := Z1.below V2
  have pc2 := P2.cell
  have zc2 := Z2.cell
  have kc2 := K2.cell
  have x2 := k2.below T2
  go_enter Try.func48, Try.ntmps48
  go_wp2_with fail
  refine region_txt 14 (by kernel_rfl) (by kernel_rfl) ?_; (iterate 14 (first | (apply ObsK.skip (by rfl)) | (apply ObsK.v (by rfl); (intro wo hT; (repeat (first | (intro v hv; (fail)) | (intro _ _ k; try have hcv := cv k))); (have kc := (K2.below hT).cell; have bo := x2.below hT; have c0 := bo.at_ (j := 0) (by omega); rw [Nat.add_zero] at c0; have c1 := bo.at_ (j := 1) (by omega); have hsz : w2.heap.size ≤ wo.heap.size := hT.size); refine Goes.mk ?_; go_simp; first | exact goes_v | exact goes_b (by assumption) | exact goes_new hsz | (refine goes_enter ?_; first | (go_at_call 67; ((with_reducible refine (get16_any (some ⟨b, off, none⟩) n2 c2 l 6 wo bo).mono ?_); rintro e w5 ⟨rfl, hD5⟩); exact ret_v hD5.bel)))) | (apply ObsK.b (by rfl); (intro wo hT; (repeat (first | (intro v hv; (fail)) | (intro _ _ k; try have hcv := cv k))); (have kc := (K2.below hT).cell; have bo := x2.below hT; have c0 := bo.at_ (j := 0) (by omega); rw [Nat.add_zero] at c0; have c1 := bo.at_ (j := 1) (by omega); have hsz : w2.heap.size ≤ wo.heap.size := hT.size); refine Goes.mk ?_; go_simp; first | exact goes_v | exact goes_b (by assumption) | exact goes_new hsz | (refine goes_enter ?_; first | (go_at_call 67; ((with_reducible refine (get16_any (some ⟨b, off, none⟩) n2 c2 l 6 wo bo).mono ?_); rintro e w5 ⟨rfl, hD5⟩); exact ret_v hD5.bel)))) | (apply ObsK.p (q := isNew w2.heap.size _ _) (by rfl) st_isNew; (intro wo hT; (repeat (first | (intro v hv; (fail)) | (intro _ _ k; try have hcv := cv k))); (have kc := (K2.below hT).cell; have bo := x2.below hT; have c0 := bo.at_ (j := 0) (by omega); rw [Nat.add_zero] at c0; have c1 := bo.at_ (j := 1) (by omega); have hsz : w2.heap.size ≤ wo.heap.size := hT.size); refine Goes.mk ?_; go_simp; first | exact goes_v | exact goes_b (by assumption) | exact goes_new hsz | (refine goes_enter ?_; first | (go_at_call 67; ((with_reducible refine (get16_any (some ⟨b, off, none⟩) n2 c2 l 6 wo bo).mono ?_); rintro e w5 ⟨rfl, hD5⟩); exact ret_v hD5.bel)))))); refine ObsK.nil ?_; intro wz hBz; simp only [finOn, List.drop_succ_cons, List.drop_zero, List.drop_nil]
  rintro vp ⟨gf, rfl, gfB, G⟩
  go_simp
  obtain ⟨w4, hw4, S4⟩ := store6 G (.int .u16 (get16 l 6)) (.bool s) (.bool a) (.int .u32 0) (.int .u32 0) (.slice none 0 0)
  have gc0 := G.cell
  have zl2 := Z2.lt
  have kl2 := K2.lt
  have kk : w.heap.size ≤ w2.heap.size := T2.size
  have F4 := S4.blk
  have Z4 := S4.other (by omega) (Z2.below hBz)
  have K4 := S4.other (by omega) (K2.below hBz)
  have T4 := S4.bel (below_then T2 hBz) (by omega)
  have x4 := k2.below T4
  go_wp2_with fail
  have hgbk : k + 1 < gb := by omega
  clear hw4 S4 gc0 G hBz pc zc pc2 zc2 kc2 hw1 hw2 hgb P2 P1
  refine region_txt 10 (by kernel_rfl) (by kernel_rfl) ?_; (iterate 10 (first | (apply ObsK.skip (by rfl)) | (apply ObsK.v (by rfl); (intro wo hT; (repeat (first | (intro _ _ k; try have hcv := cv k))); (have kc := (K4.below hT).cell; have fc := (F4.below hT).cell; have bo := x4.below hT; have c0 := bo.at_ (j := 0) (by omega); rw [Nat.add_zero] at c0; have c1 := bo.at_ (j := 1) (by omega); have c2' := bo.at_ (j := 2) (by omega); have c3 := bo.at_ (j := 3) (by omega)); refine Goes.mk ?_; go_simp; first | exact goes_v | exact goes_b (by assumption) | (refine goes_enter ?_; first | (go_at_call 87; ((with_reducible refine (begin_any s a wo).mono ?_); rintro e w5 ⟨rfl, hB5⟩); exact ret_v hB5)))) | (apply ObsK.b (by rfl); (intro wo hT; (repeat (first | (intro _ _ k; try have hcv := cv k))); (have kc := (K4.below hT).cell; have fc := (F4.below hT).cell; have bo := x4.below hT; have c0 := bo.at_ (j := 0) (by omega); rw [Nat.add_zero] at c0; have c1 := bo.at_ (j := 1) (by omega); have c2' := bo.at_ (j := 2) (by omega); have c3 := bo.at_ (j := 3) (by omega)); refine Goes.mk ?_; go_simp; first | exact goes_v | exact goes_b (by assumption) | (refine goes_enter ?_; first | (go_at_call 87; ((with_reducible refine (begin_any s a wo).mono ?_); rintro e w5 ⟨rfl, hB5⟩); exact ret_v hB5)))))); refine ObsK.nil ?_; intro wz hBz; simp only [finOn, List.drop_succ_cons, List.drop_zero, List.drop_nil]
  go_simp
  have F5 := F4.below hBz
  have Z5 := Z4.below hBz
  have K5 := K4.below hBz
  have T5 := below_then T4 hBz
  have x5 := k2.below T5
  have zc5 := Z5.cell
  have sz5 := hBz.size
  have zl4 := Z4.lt
  generalize wz = w5 at *
  clear hBz heq harr hcut4
  have hevf : ev = true := by rw [← HLE.out]; exact HH
  subst hevf
  obtain ⟨a1, ha1⟩ : ∃ a1 : Int, (if s = true then (8 : Int) + 4 else 8) = a1 := ⟨_, rfl⟩
  have hHd : (if a = true then a1 + 4 else a1) = (hdG l : Int) := by
    have hb := eqW_begB l
    have hbb : begB l = true := by rw [← hb.1]; exact HH
    have hsa := hb.2 hbb
    have es : s = sB l := by rw [← hsa.1]; exact hs.symm
    have ea : a = aB l := by rw [← hsa.2]; exact ha.symm
    unfold hdG
    rw [← ha1, es, ea]
    cases sB l <;> cases aB l <;> rfl
  obtain ⟨H, hH⟩ : ∃ H : Nat, hdG l = H := ⟨_, rfl⟩
  have HRd : Hid (rdF l = ⟨get16 l 6, s, a, (if s = true then get32 l 8 else 0), (if a = true then get32 l a1 else 0), l.drop H⟩) := by
    have hb := eqW_begB l
    have hbb : begB l = true := by rw [← hb.1]; exact HH
    have hsa := hb.2 hbb
    have es : s = sB l := by rw [← hsa.1]; exact hs.symm
    have ea : a = aB l := by rw [← hsa.2]; exact ha.symm
    unfold Hid rdF
    rw [hH, ← ha1, es, ea]
    cases sB l <;> cases aB l <;> rfl
  have HE3 : Hid ((n2 : Int) < (H : Int) + nn → geF p = zF ∧ geE p = 3) := fun h => by
    have e : geE p = 3 := by
      unfold geE
      rw [if_neg (by simpa using h1), HLL.out, k2.len, if_neg (by omega), if_neg (by rw [← (eqW_begB l).1, HH]; decide), hH, HNN.out, if_pos h]
    exact ⟨by unfold geF; rw [e, if_neg (by decide)], e⟩
  have HE4 : Hid ((H : Int) + nn < (n2 : Int) → geF p = zF ∧ geE p = 4) := fun h => by
    have e : geE p = 4 := by
      unfold geE
      rw [if_neg (by simpa using h1), HLL.out, k2.len, if_neg (by omega), if_neg (by rw [← (eqW_begB l).1, HH]; decide), hH, HNN.out, if_neg (by omega), if_pos h]
    exact ⟨by unfold geF; rw [e, if_neg (by decide)], e⟩
  have HE0 : Hid ((H : Int) + nn = (n2 : Int) → geF p = rdF l ∧ geE p = 0) := fun h => by
    have e : geE p = 0 := by
      unfold geE
      rw [if_neg (by simpa using h1), HLL.out, k2.len, if_neg (by omega), if_neg (by rw [← (eqW_begB l).1, HH]; decide), hH, HNN.out, if_neg (by omega), if_neg (by omega)]
    exact ⟨by unfold geF; rw [e, if_pos rfl, HLL.out], e⟩
  have a10 : 8 ≤ a1 ∧ a1 ≤ 12 := by rw [← ha1]; split <;> omega
  have a20 : 8 ≤ (H : Int) ∧ (H : Int) ≤ 16 := by rw [← hH, ← hHd]; split <;> omega
  obtain ⟨a10, a11⟩ := a10
  obtain ⟨a20, a21⟩ := a20
  rw [hH] at hHd
  obtain ⟨sq, hsq⟩ : ∃ sq : Int, (if s = true then get32 l 8 else 0) = sq := ⟨_, rfl⟩
  obtain ⟨ak, hak⟩ : ∃ ak : Int, (if a = true then get32 l a1 else 0) = ak := ⟨_, rfl⟩
  have N1 : ∀ W, Blk W gb #[.slice (some ⟨b, off, none⟩) n2 c2] 24 → ∀ ga, Blk W ga #[.int .i64 8] 3 → gb ≠ ga → Bs W (some ⟨b, off, none⟩) n2 c2 l → Calls Try.prog 88 #[.bool s, .pointer (some ⟨gb, 0, none⟩), .pointer (some ⟨ga, 0, none⟩)] W fun e w' => e = .returned (.int .u32 sq) ∧ W.grownBy w' (some ga) ∧ Blk w' ga #[.int .i64 a1] 3 := fun W h1 ga h2 h3 h4 => by
    have := next_any s gb ga (some ⟨b, off, none⟩) n2 c2 l 8 (by omega) (by omega) W h1 h2 h3 h4
    rw [hsq, ha1] at this
    exact this
  have N2 : ∀ W, Blk W gb #[.slice (some ⟨b, off, none⟩) n2 c2] 24 → ∀ ga, Blk W ga #[.int .i64 a1] 3 → gb ≠ ga → Bs W (some ⟨b, off, none⟩) n2 c2 l → Calls Try.prog 88 #[.bool a, .pointer (some ⟨gb, 0, none⟩), .pointer (some ⟨ga, 0, none⟩)] W fun e w' => e = .returned (.int .u32 ak) ∧ W.grownBy w' (some ga) ∧ Blk w' ga #[.int .i64 (H : Int)] 3 := fun W h1 ga h2 h3 h4 => by
    have := next_any a gb ga (some ⟨b, off, none⟩) n2 c2 l a1 (by omega) (by omega) W h1 h2 h3 h4
    rw [hak, hHd] at this
    exact this
  have HA1 := Lib.hid ha1
  have HRD : Hid (rdF l = ⟨get16 l 6, s, a, sq, ak, l.drop H⟩) := by unfold Hid; rw [HRd.out, hsq, hak]
  have hHn : get16 l 4 = nn := HNN.out
  clear ha1 hsq hak hs ha hH hHd HRd HH HNN HLE
  have hmf : ∀ (fn : Fn) (first cap : Array Value) (w : World), (Instr.makeFunc fn first cap).run Try.prog w = .ok (.func fn first cap) w := fun _ _ _ _ => rfl
  obtain ⟨ga, hga⟩ : ∃ ga : Nat, w5.heap.size = ga := ⟨_, rfl⟩
  obtain ⟨w7, hw7⟩ : ∃ w7, w5.alloc (.cells #[.int .i64 8] 3) = w7 := ⟨_, rfl⟩
  have V7 : Below w5.heap.size w5 w7 := by rw [← hw7]; (repeat (first | with_reducible exact Below.refl _ _ | with_reducible refine below_drew ?_ | with_reducible refine below_drewN ?_ _ | with_reducible refine below_alloc ?_ (Nat.le_refl _) _ | with_reducible refine Below.setCell ?_ (by first | exact Nat.le_refl _ | (simp only []; omega)) _ | with_reducible assumption))
  have J7 : Blk w7 ga #[.int .i64 8] 3 := by rw [← hw7]; exact blk_new _ _ _ ga hga
  have fl5 := F5.lt
  have kl5 := K5.lt
  have zl5 := Z5.lt
  have F7 := F5.below V7
  have K7 := K5.below V7
  have Z7 := Z5.below V7
  have T7 := below_then T5 V7
  have kk5 : w.heap.size ≤ ga := by rw [← hga]; exact T5.size
  have hne : gb ≠ ga := by omega
  have hng : gf ≠ ga := by omega
  have hnz : k + 1 ≠ ga := by omega
  have HGA := Lib.hid hga
  have HV := Lib.hid V7.size
  go_wp2_with fail
  clear hga zc5 hw7
  refine regionX 9 [3, 7] ga (fun c W => match c with | 0 => Blk W ga #[.int .i64 8] 3 | 1 => Blk W ga #[.int .i64 a1] 3 | _ + 2 => Blk W ga #[.int .i64 (H : Int)] 3) (by kernel_rfl) (by kernel_rfl) (by kernel_rfl) J7 (fun c W W' hj hb => by cases c with | zero => exact Blk.below hj hb | succ n => cases n <;> exact Blk.below hj hb) ?_; (iterate 9 (first | (apply ObsX.skip (by rfl) (by rfl)) | (apply ObsX.v (by rfl) (by rfl); (intro wo hE; (repeat (first | (intro _ _ k; try have hcv := cv k))); (have fco := (F7.ext hE hng).cell; have Ko := K7.ext hE hne; have xo := k2.ext T7 kk5 hE; (try have hj0 : Blk wo ga #[.int .i64 8] 3 := hj); (try have hj1 : Blk wo ga #[.int .i64 a1] 3 := hj)); refine Goes.mk ?_; go_simp; first | exact goes_v | (refine goes_enter ?_; first | (go_at_call 88; ((with_reducible refine (N1 wo Ko ga hj0 hne xo).mono ?_); rintro e w9 ⟨rfl, hE9, hJ9⟩); exact ⟨_, rfl, rfl, hE9, hJ9⟩) | (go_at_call 88; ((with_reducible refine (N2 wo Ko ga hj1 hne xo).mono ?_); rintro e w9 ⟨rfl, hE9, hJ9⟩); exact ⟨_, rfl, rfl, hE9, hJ9⟩)))) | (apply ObsX.ev (by rfl) (by rfl); (intro wo hE hj; (repeat (first | (intro _ _ k; try have hcv := cv k))); (have fco := (F7.ext hE hng).cell; have Ko := K7.ext hE hne; have xo := k2.ext T7 kk5 hE; (try have hj0 : Blk wo ga #[.int .i64 8] 3 := hj); (try have hj1 : Blk wo ga #[.int .i64 a1] 3 := hj)); refine GoesX.mk ?_; go_simp; first | exact goes_v | (refine goes_enter ?_; first | (go_at_call 88; ((with_reducible refine (N1 wo Ko ga hj0 hne xo).mono ?_); rintro e w9 ⟨rfl, hE9, hJ9⟩); exact ⟨_, rfl, rfl, hE9, hJ9⟩) | (go_at_call 88; ((with_reducible refine (N2 wo Ko ga hj1 hne xo).mono ?_); rintro e w9 ⟨rfl, hE9, hJ9⟩); exact ⟨_, rfl, rfl, hE9, hJ9⟩)))))); refine ObsX.nil ?_; intro wz hEz hJz; simp only [finOn, List.drop_succ_cons, List.drop_zero, List.drop_nil]
  go_simp
  have J8 : Blk wz ga #[.int .i64 (H : Int)] 3 := hJz
  have F8 := F7.ext hEz hng
  have K8 := K7.ext hEz hne
  have Z8 := Z7.ext hEz hnz
  have T8 : Below w.heap.size w wz := T7.grown hEz T7.size (fun k e => by injection e with e; omega)
  clear N1 N2
  have fc8 := F8.cell
  have fl8 := F8.lt
  have kl8 := K8.lt
  have zl8 := Z8.lt
  have jl8 := J8.lt
  obtain ⟨w9, hw9, S9⟩ : ∃ wf, (wz.setCell ⟨gf, 3, none⟩ (.int .u32 sq)).setCell ⟨gf, 4, none⟩ (.int .u32 ak) = wf ∧ Sto wz gf wf #[.int .u16 (get16 l 6), .bool s, .bool a, .int .u32 sq, .int .u32 ak, .slice none 0 0] 63 := ⟨_, rfl, by
    have := ((Sto.nil F8).set 3 (.int .u32 sq)).set 4 (.int .u32 ak)
    simp only [List.setIfInBounds_toArray, List.set_cons_zero, List.set_cons_succ] at this
    exact this⟩
  have hgf : w.heap.size ≤ gf := Nat.le_trans kk gfB
  have F9 := S9.blk
  have J9 := S9.other (Ne.symm hng) J8
  have K9 := S9.other (by omega) K8
  have Z9 := S9.other (by omega) Z8
  have T9 := S9.bel T8 hgf
  have x9 := k2.below T9
  go_wp2_with fail
  clear hw9 S9 fc8 F8 J8 K8 Z8 T8 hJz hEz
  refine region_txt 5 (by kernel_rfl) (by kernel_rfl) ?_; (iterate 5 (first | (apply ObsK.skip (by rfl)) | (apply ObsK.v (by rfl); (intro wo hT; (repeat (first | (intro _ _ k; try have hcv := cv k))); (have jco := (J9.below hT).cell; have kco := (K9.below hT).cell; have bo := x9.below hT); refine Goes.mk ?_; go_simp; first | exact goes_v | exact goes_b (by assumption) | (refine goes_enter ?_; first | (go_at_call 67; ((with_reducible refine (get16_any (some ⟨b, off, none⟩) n2 c2 l 4 wo bo).mono ?_); rintro e w10 ⟨rfl, hD10⟩); (try rw [hHn]); exact ret_v hD10.bel)))) | (apply ObsK.b (by rfl); (intro wo hT; (repeat (first | (intro _ _ k; try have hcv := cv k))); (have jco := (J9.below hT).cell; have kco := (K9.below hT).cell; have bo := x9.below hT); refine Goes.mk ?_; go_simp; first | exact goes_v | exact goes_b (by assumption) | (refine goes_enter ?_; first | (go_at_call 67; ((with_reducible refine (get16_any (some ⟨b, off, none⟩) n2 c2 l 4 wo bo).mono ?_); rintro e w10 ⟨rfl, hD10⟩); (try rw [hHn]); exact ret_v hD10.bel)))))); refine ObsK.nil ?_; intro wz hBz; simp only [finOn, List.drop_succ_cons, List.drop_zero, List.drop_nil]
  go_simp
  have F10 := F9.below hBz
  have J10 := J9.below hBz
  have K10 := K9.below hBz
  have Z10 := Z9.below hBz
  have T10 := below_then T9 hBz
  have x10 := k2.below T10
  have fc10 := F10.cell
  have jc10 := J10.cell
  have kc10 := K10.cell
  have zc10 := Z10.cell
  have hf10 := F10.lt
  have zl10 := Z10.lt
  by_cases t1 : (n2 : Int) < (H : Int) + nn
  · obtain ⟨eF, eE⟩ := HE3.out t1
    have GF := Lib.hid eF
    have GE := Lib.hid eE
    clear eF eE
    go_wp2_with fail
    obtain ⟨wf, hwf, Sf⟩ := store6 Z10 (.int .u16 0) (.bool false) (.bool false) (.int .u32 0) (.int .u32 0) (.slice none 0 0)
    rw [hwf, GF.out, GE.out]
    have pf := Sf.blk.cell
    exact bodyPost_ret (by simp [results, Try.results48, go_sem, pf]) rfl (frPost_no (Sf.bel T10 (by omega)))
  · by_cases t2 : (H : Int) + nn < (n2 : Int)
    · obtain ⟨eF, eE⟩ := HE4.out t2
      have GF := Lib.hid eF
      have GE := Lib.hid eE
      clear eF eE
      go_wp2_with fail
      obtain ⟨wf, hwf, Sf⟩ := store6 Z10 (.int .u16 0) (.bool false) (.bool false) (.int .u32 0) (.int .u32 0) (.slice none 0 0)
      rw [hwf, GF.out, GE.out]
      have pf := Sf.blk.cell
      exact bodyPost_ret (by simp [results, Try.results48, go_sem, pf]) rfl (frPost_no (Sf.bel T10 (by omega)))
    · obtain ⟨eF, eE⟩ := HE0.out (by omega)
      rw [HRD.out] at eF
      have GF := Lib.hid eF
      have GE := Lib.hid eE
      clear eF eE HE0 HE3 HE4 HRD
      have hH : H ≤ n2 := by omega
      have hcut : ∀ W, (Instr.slice 24 (.slice (some ⟨b, off, none⟩) n2 c2) (some (.int .i64 (H : Int))) none none).run Try.prog W = _ := fun W => cut_l Try.underlying24 hi8 hs8 (some ⟨b, off, none⟩) n2 c2 .i64 H (by omega) (by omega) W
      obtain ⟨A', n', c', eA, en, ec, hbD⟩ := x10.cutE (lo := H) (hi := n2) hH (Nat.le_refl _)
      simp only [Int.toNat_natCast, eA, en, ec] at hcut
      rw [hlL] at hbD
      clear eA en ec hlL
      go_wp2_with (go_at_call 60; ((with_reducible refine (clone_any A' n' c' _ _ hbD).mono ?_); rintro e w11 ⟨A9, c9, rfl, ho9, hB9⟩); have F11 := F10.below hB9; have Z11 := Z10.below hB9; have fc11 := F11.cell; (obtain ⟨w12, hw12, S12⟩ := store1 F11 5 (.slice A9 n' c9)); simp only [List.setIfInBounds_toArray, List.set_cons_zero, List.set_cons_succ] at S12; have F12 := S12.blk.cell; have Z12 := S12.other (by omega) Z11; have zc12 := Z12.cell; have zl12 := Z12.lt; have T12 := S12.bel (below_then T10 hB9) hgf; have O12 := S12.own ho9 (fun a e => by have := ho9.ge a e; omega))
      obtain ⟨wf, hwf, Sf⟩ := store6 Z12 (.int .u16 (get16 l 6)) (.bool s) (.bool a) (.int .u32 sq) (.int .u32 ak) (.slice A9 n' c9)
      rw [hwf, GF.out, GE.out]
      have pf := Sf.blk.cell
      have Of := Sf.own O12 (fun a e => by have := O12.ge a e; omega)
      have s10 := T10.size
      exact bodyPost_ret (v := .tuple #[.agg #[.int .u16 (get16 l 6), .bool s, .bool a, .int .u32 sq, .int .u32 ak, .slice A9 n' c9], .int .i64 0]) (by simp [results, Try.results48, go_sem, pf]) rfl ⟨A9, n', c9, rfl, Of.mono s10, Sf.bel T12 (by omega)⟩
theorem gre_any (p : Pkt) (A1 : Option Addr) (n1 c1 : Nat) (A2 : Option Addr) (n2 c2 : Nat) (w : World) (k2 : Bs w A2 n2 c2 p.dat) :
    Calls Try.prog 48 #[(.agg #[.int .u8 (p).tos, .int .u16 (p).id, .bool (p).keep, .int .u8 (p).ttl, .int .u8 (p).proto, .int .u32 (p).src, .int .u32 (p).dst, .slice A1 n1 c1, .slice A2 n2 c2])] w (FrPost w (geF p) (geE p)) := by
  have l2 := k2.len
  by_cases h1 : p.proto = 47
  · have h1' : (p.proto != 47) = false := by simp [h1]
    by_cases h2 : 8 ≤ (n2 : Int)
    · cases hq : eqW p.dat with
      | true => exact gre_yes p A1 n1 c1 A2 n2 c2 w k2 h1' h2 hq
      | false =>
        have e : geE p = 4 := by unfold geE; rw [if_neg (by simp [h1]), l2, if_neg (by omega), if_pos (by rw [← (eqW_begB p.dat).1, hq])]
        rw [show geF p = zF from by unfold geF; rw [e, if_neg (by decide)], e]
        exact gre_form p A1 n1 c1 A2 n2 c2 w k2 h1' h2 hq
    · have e : geE p = 3 := by unfold geE; rw [if_neg (by simp [h1]), l2, if_pos (by omega)]
      rw [show geF p = zF from by unfold geF; rw [e, if_neg (by decide)], e]
      exact gre_no p A1 n1 c1 A2 n2 c2 w k2 3 (.inr ⟨rfl, h1', by omega⟩)
  · have e : geE p = 12 := by unfold geE; rw [if_pos h1]
    rw [show geF p = zF from by unfold geF; rw [e, if_neg (by decide)], e]
    exact gre_no p A1 n1 c1 A2 n2 c2 w k2 12 (.inl ⟨rfl, by simpa using h1⟩)
end Go.Proofs.Ytjhpmeagopdaiaa

namespace Go.Proofs.Ytjhpmeagopdaiaa
open Go.RowKit Go.MapKept
set_option linter.unusedVariables false
set_option linter.unusedSimpArgs false
set_option maxHeartbeats 4000000
set_option maxRecDepth 100000

def wayT : Value := .agg #[.func (.func 73) #[] #[], .func (.func 72) #[] #[]]
def wayU : Value := .agg #[.func (.func 74) #[] #[], .func (.func 72) #[] #[]]
def wayI : Value := .agg #[.func (.func 75) #[] #[], .func (.func 76) #[] #[]]
def wayG : Value := .agg #[.func (.func 77) #[] #[], .func (.func 78) #[] #[]]
def kn : Nat → Array MapEntry
  | 0 => #[]
  | 1 => #[⟨.int .u8 6, wayT, 0⟩]
  | 2 => #[⟨.int .u8 6, wayT, 0⟩, ⟨.int .u8 17, wayU, 1⟩]
  | 3 => #[⟨.int .u8 6, wayT, 0⟩, ⟨.int .u8 17, wayU, 1⟩, ⟨.int .u8 1, wayI, 2⟩]
  | _ => #[⟨.int .u8 6, wayT, 0⟩, ⟨.int .u8 17, wayU, 1⟩, ⟨.int .u8 1, wayI, 2⟩, ⟨.int .u8 47, wayG, 3⟩]
theorem push_setK {α : Type} (h : Array α) (x y : α) : (h.push x).setIfInBounds h.size y = h.push y := by
  apply Array.ext_getElem?
  intro i
  simp only [Array.getElem?_setIfInBounds, Array.getElem?_push, Array.size_push]
  by_cases e : i = h.size
  · simp [e]
  · simp [e, Ne.symm e]
theorem run_insertK {w : World} {es es' : Array MapEntry} {c : Nat} (k : Int) (v : Value) (h : Instr.findNow (.int .u8) (.int .u8 k) es.toList 0 = some none) (he : es.push ⟨.int .u8 k, v, c⟩ = es') :
    (Instr.mapUpdate 84 (.map (some w.heap.size)) (.int .u8 k) v).run Try.prog (w.alloc (.map es c)) = .ok () (w.alloc (.map es' (c + 1))) := by
  have hb : (w.alloc (.map es c)).heap[w.heap.size]? = some (.map es c) := (heap_alloc w _).1
  have ht := Try.underlying84
  have hk := Try.underlying5
  have hkey : IsKey (.int .u8) (.int .u8 k) := rfl
  subst he
  simp [Instr.mapUpdate, run_underlying ht, MapKept.run_getObj_map hb, run_checkKey hk hkey, run_findKey hk h, run_setObj_map _ hb, Result.andThen]
  show ({ w with heap := (w.heap.push _).setIfInBounds w.heap.size _ } : World) = _
  rw [push_setK]
  rfl
theorem known_any (w : World) :
    Calls Try.prog 42 #[] w fun e w' => e = .returned (.map (some w.heap.size)) ∧ w' = w.alloc (.map (kn 4) 4) := by
  have h0 : (Instr.makeMap 84 none).run Try.prog w = .ok (.map (some w.heap.size)) (w.alloc (.map (kn 0) 0)) := rfl
  have h1 := run_insertK (w := w) (es := kn 0) (es' := kn 1) (c := 0) 6 wayT rfl rfl
  have h2 := run_insertK (w := w) (es := kn 1) (es' := kn 2) (c := 1) 17 wayU rfl rfl
  have h3 := run_insertK (w := w) (es := kn 2) (es' := kn 3) (c := 2) 1 wayI rfl rfl
  have h4 := run_insertK (w := w) (es := kn 3) (es' := kn 4) (c := 3) 47 wayG rfl rfl
  unfold wayT at h1; unfold wayU at h2; unfold wayI at h3; unfold wayG at h4
  go_enter Try.func42, Try.ntmps42
  go_wp2_with fail
  go_ret
  exact ⟨rfl, rfl⟩
def knB (t : Int) : Bool := t == 6 || t == 17 || t == 1 || t == 47
def knV (t : Int) : Value := if t = 6 then wayT else if t = 17 then wayU else if t = 1 then wayI else if t = 47 then wayG else .agg #[.nilFunc, .nilFunc]
theorem run_known {W : World} {r : Nat} (h : W.heap[r]? = some (.map (kn 4) 4)) (t : Int) :
    (Instr.lookup 84 (.map (some r)) (.int .u8 t) true).run Try.prog W = .ok (.tuple #[knV t, .bool (knB t)]) W := by
  have ht := Try.underlying84
  have hk := Try.underlying5
  have hkey : IsKey (.int .u8) (.int .u8 t) := rfl
  have hz : (zeroValue 82).run Try.prog W = .ok (.agg #[.nilFunc, .nilFunc]) W := by rfl
  have hemp : (kn 4).isEmpty = false := rfl
  by_cases h6 : t = 6
  · subst h6
    have hf : Instr.findNow (.int .u8) (.int .u8 6) (kn 4).toList 0 = some (some (0, wayT)) := rfl
    simp [Instr.lookup, run_underlying ht, MapKept.run_getObj_map h, run_checkKey hk hkey, run_findKey hk hf, Result.andThen, knV, knB]
  by_cases h17 : t = 17
  · subst h17
    have hf : Instr.findNow (.int .u8) (.int .u8 17) (kn 4).toList 0 = some (some (1, wayU)) := rfl
    simp [Instr.lookup, run_underlying ht, MapKept.run_getObj_map h, run_checkKey hk hkey, run_findKey hk hf, Result.andThen, knV, knB]
  by_cases h1 : t = 1
  · subst h1
    have hf : Instr.findNow (.int .u8) (.int .u8 1) (kn 4).toList 0 = some (some (2, wayI)) := rfl
    simp [Instr.lookup, run_underlying ht, MapKept.run_getObj_map h, run_checkKey hk hkey, run_findKey hk hf, Result.andThen, knV, knB]
  by_cases h47 : t = 47
  · subst h47
    have hf : Instr.findNow (.int .u8) (.int .u8 47) (kn 4).toList 0 = some (some (3, wayG)) := rfl
    simp [Instr.lookup, run_underlying ht, MapKept.run_getObj_map h, run_checkKey hk hkey, run_findKey hk hf, Result.andThen, knV, knB]
  have hf : Instr.findNow (.int .u8) (.int .u8 t) (kn 4).toList 0 = some none := by
    simp [kn, Instr.findNow, Instr.sameNow, beq_eq_false_iff_ne.2 h6, beq_eq_false_iff_ne.2 h17, beq_eq_false_iff_ne.2 h1, beq_eq_false_iff_ne.2 h47]
  simp [Instr.lookup, run_underlying ht, MapKept.run_getObj_map h, run_checkKey hk hkey, run_findKey hk hf, Result.andThen, knV, knB, hz, h6, h17, h1, h47]

structure PtPost (w : World) (a b E : Int) (e : Ending) (w' : World) : Prop where
  out : e = .returned (.tuple #[.agg #[.int .u16 a, .int .u16 b], .int .i64 E]) ∧ Below w.heap.size w w'
theorem ptcp_any (p : Pkt) (hp : p.Ok) (A1 : Option Addr) (n1 c1 : Nat) (A2 : Option Addr) (n2 c2 : Nat) (w : World) (k2 : Bs w A2 n2 c2 p.dat) (h7 : n2 ≤ 140737488400000) :
    Calls Try.prog 73 #[(.agg #[.int .u8 (p).tos, .int .u16 (p).id, .bool (p).keep, .int .u8 (p).ttl, .int .u8 (p).proto, .int .u32 (p).src, .int .u32 (p).dst, .slice A1 n1 c1, .slice A2 n2 c2])] w (PtPost w (tcS p).src (tcS p).dst (tcE p)) := by
  have ht := fun W (h : Bs W A2 n2 c2 p.dat) => tcp_any p hp A1 n1 c1 A2 n2 c2 W h h7
  obtain ⟨s, hs⟩ : ∃ s, tcS p = s := ⟨_, rfl⟩
  obtain ⟨E, hE⟩ : ∃ s, tcE p = s := ⟨_, rfl⟩
  rw [hs, hE] at ht
  rw [hs, hE]
  clear hs hE
  obtain ⟨k, hk⟩ : ∃ k : Nat, w.heap.size = k := ⟨_, rfl⟩
  obtain ⟨w1, hw1⟩ : ∃ W, ((w.alloc (.cells #[.int .u8 (p).tos, .int .u16 (p).id, .bool (p).keep, .int .u8 (p).ttl, .int .u8 (p).proto, .int .u32 (p).src, .int .u32 (p).dst, .slice A1 n1 c1, .slice A2 n2 c2] 26)).alloc (.cells #[.int .u16 0, .int .u16 0] 87)) = W := ⟨_, rfl⟩
  have P1 : Blk w1 k #[.int .u8 (p).tos, .int .u16 (p).id, .bool (p).keep, .int .u8 (p).ttl, .int .u8 (p).proto, .int .u32 (p).src, .int .u32 (p).dst, .slice A1 n1 c1, .slice A2 n2 c2] 26 := by rw [← hw1]; exact ((blk_new _ _ _ k (by simp [hk])).alloc _)
  have Z1 : Blk w1 (k + 1) #[.int .u16 0, .int .u16 0] 87 := by rw [← hw1]; exact (blk_new _ _ _ (k + 1) (by simp [hk]))
  have R1 : Below w.heap.size w w1 := by rw [← hw1]; (repeat (first | with_reducible exact Below.refl _ _ | with_reducible refine below_drew ?_ | with_reducible refine below_drewN ?_ _ | with_reducible refine below_alloc ?_ (Nat.le_refl _) _ | with_reducible refine Below.setCell ?_ (by first | exact Nat.le_refl _ | (simp only []; omega)) _ | with_reducible assumption))
  have Pc1 := P1.cell
  have Zc1 := Z1.cell
  have Pl1 := P1.lt
  have Zl1 := Z1.lt
  have x1 := (k2).below R1
  go_enter Try.func73, Try.ntmps73
  go_wp2_with (go_at_call 44; ((with_reducible refine (ht w1 x1).mono ?_); rintro e u2 ⟨⟨OA, on, oc, DA, dn, dc, rfl, -, -, -, hB2⟩⟩); (obtain ⟨w2, hw2⟩ : ∃ W, u2.alloc (.cells #[.int .u16 (s).src, .int .u16 (s).dst, .int .u32 (s).seq, .int .u32 (s).ack, .int .u8 (s).flags, .int .u16 (s).win, .int .u16 (s).urg, .slice OA on oc, .slice DA dn dc] 55) = W := ⟨_, rfl⟩); have V2 : Below u2.heap.size u2 w2 := (by rw [← hw2]; (repeat (first | with_reducible exact Below.refl _ _ | with_reducible refine below_drew ?_ | with_reducible refine below_drewN ?_ _ | with_reducible refine below_alloc ?_ (Nat.le_refl _) _ | with_reducible refine Below.setCell ?_ (by first | exact Nat.le_refl _ | (simp only []; omega)) _ | with_reducible assumption))); (obtain ⟨kS2, hkS2⟩ : ∃ k : Nat, u2.heap.size = k := ⟨_, rfl⟩); have S2 : Blk w2 kS2 #[.int .u16 (s).src, .int .u16 (s).dst, .int .u32 (s).seq, .int .u32 (s).ack, .int .u8 (s).flags, .int .u16 (s).win, .int .u16 (s).urg, .slice OA on oc, .slice DA dn dc] 55 := (by rw [← hw2]; exact blk_new u2 _ _ _ hkS2); have Sc2 := S2.cell; have T2 := below_then hB2 V2; have P2 := P1.below T2; have Pc2 := P2.cell; clear Pc1; have Z2 := Z1.below T2; have Zc2 := Z2.cell; clear Zc1; have x2 := x1.below T2; have R2 := below_then R1 T2)
  obtain ⟨wf, hwf, Sf⟩ := store2 Z2 (.int .u16 s.src) (.int .u16 s.dst)
  rw [hwf]
  have pf := Sf.blk.cell
  exact bodyPost_ret (by simp [results, Try.results73, go_sem, pf]) rfl ⟨⟨rfl, Sf.bel R2 (by omega)⟩⟩

theorem pudp_any (p : Pkt) (hp : p.Ok) (A1 : Option Addr) (n1 c1 : Nat) (A2 : Option Addr) (n2 c2 : Nat) (w : World) (k2 : Bs w A2 n2 c2 p.dat) :
    Calls Try.prog 74 #[(.agg #[.int .u8 (p).tos, .int .u16 (p).id, .bool (p).keep, .int .u8 (p).ttl, .int .u8 (p).proto, .int .u32 (p).src, .int .u32 (p).dst, .slice A1 n1 c1, .slice A2 n2 c2])] w (PtPost w (udD p).src (udD p).dst (udE p)) := by
  have ht := fun W (h : Bs W A2 n2 c2 p.dat) => udp_any p hp A1 n1 c1 A2 n2 c2 W h
  obtain ⟨s, hs⟩ : ∃ s, udD p = s := ⟨_, rfl⟩
  obtain ⟨E, hE⟩ : ∃ s, udE p = s := ⟨_, rfl⟩
  rw [hs, hE] at ht
  rw [hs, hE]
  clear hs hE
  obtain ⟨k, hk⟩ : ∃ k : Nat, w.heap.size = k := ⟨_, rfl⟩
  obtain ⟨w1, hw1⟩ : ∃ W, ((w.alloc (.cells #[.int .u8 (p).tos, .int .u16 (p).id, .bool (p).keep, .int .u8 (p).ttl, .int .u8 (p).proto, .int .u32 (p).src, .int .u32 (p).dst, .slice A1 n1 c1, .slice A2 n2 c2] 26)).alloc (.cells #[.int .u16 0, .int .u16 0] 87)) = W := ⟨_, rfl⟩
  have P1 : Blk w1 k #[.int .u8 (p).tos, .int .u16 (p).id, .bool (p).keep, .int .u8 (p).ttl, .int .u8 (p).proto, .int .u32 (p).src, .int .u32 (p).dst, .slice A1 n1 c1, .slice A2 n2 c2] 26 := by rw [← hw1]; exact ((blk_new _ _ _ k (by simp [hk])).alloc _)
  have Z1 : Blk w1 (k + 1) #[.int .u16 0, .int .u16 0] 87 := by rw [← hw1]; exact (blk_new _ _ _ (k + 1) (by simp [hk]))
  have R1 : Below w.heap.size w w1 := by rw [← hw1]; (repeat (first | with_reducible exact Below.refl _ _ | with_reducible refine below_drew ?_ | with_reducible refine below_drewN ?_ _ | with_reducible refine below_alloc ?_ (Nat.le_refl _) _ | with_reducible refine Below.setCell ?_ (by first | exact Nat.le_refl _ | (simp only []; omega)) _ | with_reducible assumption))
  have Pc1 := P1.cell
  have Zc1 := Z1.cell
  have Pl1 := P1.lt
  have Zl1 := Z1.lt
  have x1 := (k2).below R1
  go_enter Try.func74, Try.ntmps74
  go_wp2_with (go_at_call 46; ((with_reducible refine (ht w1 x1).mono ?_); rintro e u2 ⟨⟨DA, dn, dc, rfl, -, hB2⟩⟩); (obtain ⟨w2, hw2⟩ : ∃ W, u2.alloc (.cells #[.int .u16 (s).src, .int .u16 (s).dst, .bool (s).bare, .slice DA dn dc] 52) = W := ⟨_, rfl⟩); have V2 : Below u2.heap.size u2 w2 := (by rw [← hw2]; (repeat (first | with_reducible exact Below.refl _ _ | with_reducible refine below_drew ?_ | with_reducible refine below_drewN ?_ _ | with_reducible refine below_alloc ?_ (Nat.le_refl _) _ | with_reducible refine Below.setCell ?_ (by first | exact Nat.le_refl _ | (simp only []; omega)) _ | with_reducible assumption))); (obtain ⟨kS2, hkS2⟩ : ∃ k : Nat, u2.heap.size = k := ⟨_, rfl⟩); have S2 : Blk w2 kS2 #[.int .u16 (s).src, .int .u16 (s).dst, .bool (s).bare, .slice DA dn dc] 52 := (by rw [← hw2]; exact blk_new u2 _ _ _ hkS2); have Sc2 := S2.cell; have T2 := below_then hB2 V2; have P2 := P1.below T2; have Pc2 := P2.cell; clear Pc1; have Z2 := Z1.below T2; have Zc2 := Z2.cell; clear Zc1; have x2 := x1.below T2; have R2 := below_then R1 T2)
  obtain ⟨wf, hwf, Sf⟩ := store2 Z2 (.int .u16 s.src) (.int .u16 s.dst)
  rw [hwf]
  have pf := Sf.blk.cell
  exact bodyPost_ret (by simp [results, Try.results74, go_sem, pf]) rfl ⟨⟨rfl, Sf.bel R2 (by omega)⟩⟩

theorem pgre_any (p : Pkt) (A1 : Option Addr) (n1 c1 : Nat) (A2 : Option Addr) (n2 c2 : Nat) (w : World) (k2 : Bs w A2 n2 c2 p.dat) :
    Calls Try.prog 77 #[(.agg #[.int .u8 (p).tos, .int .u16 (p).id, .bool (p).keep, .int .u8 (p).ttl, .int .u8 (p).proto, .int .u32 (p).src, .int .u32 (p).dst, .slice A1 n1 c1, .slice A2 n2 c2])] w (PtPost w 0 (geF p).call (geE p)) := by
  have ht := fun W (h : Bs W A2 n2 c2 p.dat) => gre_any p A1 n1 c1 A2 n2 c2 W h
  obtain ⟨s, hs⟩ : ∃ s, geF p = s := ⟨_, rfl⟩
  obtain ⟨E, hE⟩ : ∃ s, geE p = s := ⟨_, rfl⟩
  rw [hs, hE] at ht
  rw [hs, hE]
  clear hs hE
  obtain ⟨k, hk⟩ : ∃ k : Nat, w.heap.size = k := ⟨_, rfl⟩
  obtain ⟨w1, hw1⟩ : ∃ W, ((w.alloc (.cells #[.int .u8 (p).tos, .int .u16 (p).id, .bool (p).keep, .int .u8 (p).ttl, .int .u8 (p).proto, .int .u32 (p).src, .int .u32 (p).dst, .slice A1 n1 c1, .slice A2 n2 c2] 26)).alloc (.cells #[.int .u16 0, .int .u16 0] 87)) = W := ⟨_, rfl⟩
  have P1 : Blk w1 k #[.int .u8 (p).tos, .int .u16 (p).id, .bool (p).keep, .int .u8 (p).ttl, .int .u8 (p).proto, .int .u32 (p).src, .int .u32 (p).dst, .slice A1 n1 c1, .slice A2 n2 c2] 26 := by rw [← hw1]; exact ((blk_new _ _ _ k (by simp [hk])).alloc _)
  have Z1 : Blk w1 (k + 1) #[.int .u16 0, .int .u16 0] 87 := by rw [← hw1]; exact (blk_new _ _ _ (k + 1) (by simp [hk]))
  have R1 : Below w.heap.size w w1 := by rw [← hw1]; (repeat (first | with_reducible exact Below.refl _ _ | with_reducible refine below_drew ?_ | with_reducible refine below_drewN ?_ _ | with_reducible refine below_alloc ?_ (Nat.le_refl _) _ | with_reducible refine Below.setCell ?_ (by first | exact Nat.le_refl _ | (simp only []; omega)) _ | with_reducible assumption))
  have Pc1 := P1.cell
  have Zc1 := Z1.cell
  have Pl1 := P1.lt
  have Zl1 := Z1.lt
  have x1 := (k2).below R1
  go_enter Try.func77, Try.ntmps77
  go_wp2_with (go_at_call 48; ((with_reducible refine (ht w1 x1).mono ?_); rintro e u2 ⟨⟨DA, dn, dc, rfl, -, hB2⟩⟩); (obtain ⟨w2, hw2⟩ : ∃ W, u2.alloc (.cells #[.int .u16 (s).call, .bool (s).hs, .bool (s).ha, .int .u32 (s).seq, .int .u32 (s).ack, .slice DA dn dc] 63) = W := ⟨_, rfl⟩); have V2 : Below u2.heap.size u2 w2 := (by rw [← hw2]; (repeat (first | with_reducible exact Below.refl _ _ | with_reducible refine below_drew ?_ | with_reducible refine below_drewN ?_ _ | with_reducible refine below_alloc ?_ (Nat.le_refl _) _ | with_reducible refine Below.setCell ?_ (by first | exact Nat.le_refl _ | (simp only []; omega)) _ | with_reducible assumption))); (obtain ⟨kS2, hkS2⟩ : ∃ k : Nat, u2.heap.size = k := ⟨_, rfl⟩); have S2 : Blk w2 kS2 #[.int .u16 (s).call, .bool (s).hs, .bool (s).ha, .int .u32 (s).seq, .int .u32 (s).ack, .slice DA dn dc] 63 := (by rw [← hw2]; exact blk_new u2 _ _ _ hkS2); have Sc2 := S2.cell; have T2 := below_then hB2 V2; have P2 := P1.below T2; have Pc2 := P2.cell; clear Pc1; have Z2 := Z1.below T2; have Zc2 := Z2.cell; clear Zc1; have x2 := x1.below T2; have R2 := below_then R1 T2)
  obtain ⟨wf, hwf, Sf⟩ := store2 Z2 (.int .u16 0) (.int .u16 s.call)
  rw [hwf]
  have pf := Sf.blk.cell
  exact bodyPost_ret (by simp [results, Try.results77, go_sem, pf]) rfl ⟨⟨rfl, Sf.bel R2 (by omega)⟩⟩

def picE (E : Int) (m : Msg) : Int := if E = 0 ∧ isEchoM m = false then 12 else E
theorem picmp_any (p : Pkt) (A1 : Option Addr) (n1 c1 : Nat) (A2 : Option Addr) (n2 c2 : Nat) (w : World) (k2 : Bs w A2 n2 c2 p.dat) :
    Calls Try.prog 75 #[(.agg #[.int .u8 (p).tos, .int .u16 (p).id, .bool (p).keep, .int .u8 (p).ttl, .int .u8 (p).proto, .int .u32 (p).src, .int .u32 (p).dst, .slice A1 n1 c1, .slice A2 n2 c2])] w (PtPost w ((icM p).rest / 65536) ((icM p).rest / 65536) (picE (icE p) (icM p))) := by
  have ht := fun W (h : Bs W A2 n2 c2 p.dat) => icmp_any p A1 n1 c1 A2 n2 c2 W h
  have hm := icM_ok p
  have hc := fun B b1 b2 W => isecho_any (icM p) hm B b1 b2 W
  obtain ⟨s, hs⟩ : ∃ s, icM p = s := ⟨_, rfl⟩
  obtain ⟨E, hE⟩ : ∃ s, icE p = s := ⟨_, rfl⟩
  rw [hs, hE] at ht
  rw [hs] at hm hc
  rw [hs, hE]
  obtain ⟨r0, r1⟩ := hm.rest
  obtain ⟨q, hq⟩ : ∃ q, s.rest / 65536 = q := ⟨_, rfl⟩
  have hq0 : 0 ≤ q ∧ q ≤ 65535 := by omega
  have hq1 : q % 65536 = q := by omega
  rw [hq]
  obtain ⟨b, hb⟩ : ∃ b, isEchoM s = b := ⟨_, rfl⟩
  have HE : Hid (picE E s = if E = 0 ∧ b = false then 12 else E) := by unfold Hid picE; rw [hb]
  rw [hb] at hc
  clear hs hE hm hb
  obtain ⟨k, hk⟩ : ∃ k : Nat, w.heap.size = k := ⟨_, rfl⟩
  obtain ⟨w1, hw1⟩ : ∃ W, ((w.alloc (.cells #[.int .u8 (p).tos, .int .u16 (p).id, .bool (p).keep, .int .u8 (p).ttl, .int .u8 (p).proto, .int .u32 (p).src, .int .u32 (p).dst, .slice A1 n1 c1, .slice A2 n2 c2] 26)).alloc (.cells #[.int .u16 0, .int .u16 0] 87)) = W := ⟨_, rfl⟩
  have P1 : Blk w1 k #[.int .u8 (p).tos, .int .u16 (p).id, .bool (p).keep, .int .u8 (p).ttl, .int .u8 (p).proto, .int .u32 (p).src, .int .u32 (p).dst, .slice A1 n1 c1, .slice A2 n2 c2] 26 := by rw [← hw1]; exact ((blk_new _ _ _ k (by simp [hk])).alloc _)
  have Z1 : Blk w1 (k + 1) #[.int .u16 0, .int .u16 0] 87 := by rw [← hw1]; exact (blk_new _ _ _ (k + 1) (by simp [hk]))
  have R1 : Below w.heap.size w w1 := by rw [← hw1]; (repeat (first | with_reducible exact Below.refl _ _ | with_reducible refine below_drew ?_ | with_reducible refine below_drewN ?_ _ | with_reducible refine below_alloc ?_ (Nat.le_refl _) _ | with_reducible refine Below.setCell ?_ (by first | exact Nat.le_refl _ | (simp only []; omega)) _ | with_reducible assumption))
  have Pc1 := P1.cell
  have Zc1 := Z1.cell
  have Pl1 := P1.lt
  have Zl1 := Z1.lt
  have x1 := (k2).below R1
  by_cases h0 : E = 0
  · subst h0
    cases b
    · go_enter Try.func75, Try.ntmps75
      go_wp2_with (first
        | (go_at_call 32; ((with_reducible refine (ht w1 x1).mono ?_); rintro e u2 ⟨⟨DA, dn, dc, rfl, -, hB2⟩⟩); (obtain ⟨w2, hw2⟩ : ∃ W, u2.alloc (.cells #[.int .u8 (s).ty, .int .u8 (s).code, .int .u32 (s).rest, .slice DA dn dc] 42) = W := ⟨_, rfl⟩); have V2 : Below u2.heap.size u2 w2 := (by rw [← hw2]; (repeat (first | with_reducible exact Below.refl _ _ | with_reducible refine below_drew ?_ | with_reducible refine below_drewN ?_ _ | with_reducible refine below_alloc ?_ (Nat.le_refl _) _ | with_reducible refine Below.setCell ?_ (by first | exact Nat.le_refl _ | (simp only []; omega)) _ | with_reducible assumption))); (obtain ⟨kS2, hkS2⟩ : ∃ k : Nat, u2.heap.size = k := ⟨_, rfl⟩); have S2 : Blk w2 kS2 #[.int .u8 (s).ty, .int .u8 (s).code, .int .u32 (s).rest, .slice DA dn dc] 42 := (by rw [← hw2]; exact blk_new u2 _ _ _ hkS2); have Sc2 := S2.cell; have T2 := below_then hB2 V2; have P2 := P1.below T2; have Pc2 := P2.cell; clear Pc1; have Z2 := Z1.below T2; have Zc2 := Z2.cell; clear Zc1; have x2 := x1.below T2; have R2 := below_then R1 T2)
        | (go_at_call 100; ((with_reducible refine (hc DA dn dc w2).mono ?_); rintro e w3 ⟨rfl, hB3⟩); have P3 := P2.below hB3; have Pc3 := P3.cell; clear Pc2; have Z3 := Z2.below hB3; have Zc3 := Z3.cell; clear Zc2; have S3 := S2.below hB3; have Sc3 := S3.cell; clear Sc2; have x3 := x2.below hB3; have R3 := below_then R2 hB3))
      obtain ⟨wf, hwf, Sf⟩ := store2 Z3 (.int .u16 q) (.int .u16 q)
      rw [hwf]
      have pf := Sf.blk.cell
      exact bodyPost_ret (v := .tuple #[.agg #[.int .u16 q, .int .u16 q], .int .i64 12]) (by simp [results, Try.results75, go_sem, pf]) rfl ⟨⟨by rw [HE.out, if_pos (by simp)], Sf.bel R3 (by omega)⟩⟩

    · go_enter Try.func75, Try.ntmps75
      go_wp2_with (first
        | (go_at_call 32; ((with_reducible refine (ht w1 x1).mono ?_); rintro e u2 ⟨⟨DA, dn, dc, rfl, -, hB2⟩⟩); (obtain ⟨w2, hw2⟩ : ∃ W, u2.alloc (.cells #[.int .u8 (s).ty, .int .u8 (s).code, .int .u32 (s).rest, .slice DA dn dc] 42) = W := ⟨_, rfl⟩); have V2 : Below u2.heap.size u2 w2 := (by rw [← hw2]; (repeat (first | with_reducible exact Below.refl _ _ | with_reducible refine below_drew ?_ | with_reducible refine below_drewN ?_ _ | with_reducible refine below_alloc ?_ (Nat.le_refl _) _ | with_reducible refine Below.setCell ?_ (by first | exact Nat.le_refl _ | (simp only []; omega)) _ | with_reducible assumption))); (obtain ⟨kS2, hkS2⟩ : ∃ k : Nat, u2.heap.size = k := ⟨_, rfl⟩); have S2 : Blk w2 kS2 #[.int .u8 (s).ty, .int .u8 (s).code, .int .u32 (s).rest, .slice DA dn dc] 42 := (by rw [← hw2]; exact blk_new u2 _ _ _ hkS2); have Sc2 := S2.cell; have T2 := below_then hB2 V2; have P2 := P1.below T2; have Pc2 := P2.cell; clear Pc1; have Z2 := Z1.below T2; have Zc2 := Z2.cell; clear Zc1; have x2 := x1.below T2; have R2 := below_then R1 T2)
        | (go_at_call 100; ((with_reducible refine (hc DA dn dc w2).mono ?_); rintro e w3 ⟨rfl, hB3⟩); have P3 := P2.below hB3; have Pc3 := P3.cell; clear Pc2; have Z3 := Z2.below hB3; have Zc3 := Z3.cell; clear Zc2; have S3 := S2.below hB3; have Sc3 := S3.cell; clear Sc2; have x3 := x2.below hB3; have R3 := below_then R2 hB3))
      obtain ⟨wf, hwf, Sf⟩ := store2 Z3 (.int .u16 q) (.int .u16 q)
      rw [hwf]
      have pf := Sf.blk.cell
      exact bodyPost_ret (v := .tuple #[.agg #[.int .u16 q, .int .u16 q], .int .i64 0]) (by simp [results, Try.results75, go_sem, pf]) rfl ⟨⟨by rw [HE.out, if_neg (by simp)], Sf.bel R3 (by omega)⟩⟩

  · go_enter Try.func75, Try.ntmps75
    have h0b : (E == 0) = false := by simpa using h0
    go_wp2_with (go_at_call 32; ((with_reducible refine (ht w1 x1).mono ?_); rintro e u2 ⟨⟨DA, dn, dc, rfl, -, hB2⟩⟩); (obtain ⟨w2, hw2⟩ : ∃ W, u2.alloc (.cells #[.int .u8 (s).ty, .int .u8 (s).code, .int .u32 (s).rest, .slice DA dn dc] 42) = W := ⟨_, rfl⟩); have V2 : Below u2.heap.size u2 w2 := (by rw [← hw2]; (repeat (first | with_reducible exact Below.refl _ _ | with_reducible refine below_drew ?_ | with_reducible refine below_drewN ?_ _ | with_reducible refine below_alloc ?_ (Nat.le_refl _) _ | with_reducible refine Below.setCell ?_ (by first | exact Nat.le_refl _ | (simp only []; omega)) _ | with_reducible assumption))); (obtain ⟨kS2, hkS2⟩ : ∃ k : Nat, u2.heap.size = k := ⟨_, rfl⟩); have S2 : Blk w2 kS2 #[.int .u8 (s).ty, .int .u8 (s).code, .int .u32 (s).rest, .slice DA dn dc] 42 := (by rw [← hw2]; exact blk_new u2 _ _ _ hkS2); have Sc2 := S2.cell; have T2 := below_then hB2 V2; have P2 := P1.below T2; have Pc2 := P2.cell; clear Pc1; have Z2 := Z1.below T2; have Zc2 := Z2.cell; clear Zc1; have x2 := x1.below T2; have R2 := below_then R1 T2)
    obtain ⟨wf, hwf, Sf⟩ := store2 Z2 (.int .u16 q) (.int .u16 q)
    rw [hwf]
    have pf := Sf.blk.cell
    exact bodyPost_ret (v := .tuple #[.agg #[.int .u16 q, .int .u16 q], .int .i64 E]) (by simp [results, Try.results75, go_sem, pf]) rfl ⟨⟨by rw [HE.out, if_neg (by simp [h0])], Sf.bel R2 (by omega)⟩⟩
structure TtPost (w : World) (T : Tup) (E : Int) (e : Ending) (w' : World) : Prop where
  out : e = .returned (.tuple #[(.agg #[.int .u8 (T).proto, .int .u32 (T).src, .int .u32 (T).dst, .int .u16 (T).sp, .int .u16 (T).dp]), .int .i64 E]) ∧ Below w.heap.size w w'
def tuP (p : Pkt) (a b E : Int) : Tup := if E ≠ 0 then zT else ⟨p.proto, p.src, p.dst, a, b⟩
theorem tupled_any (p : Pkt) (A1 : Option Addr) (n1 c1 : Nat) (A2 : Option Addr) (n2 c2 : Nat) (a b E : Int) (w : World) :
    Calls Try.prog 43 #[(.agg #[.int .u8 (p).tos, .int .u16 (p).id, .bool (p).keep, .int .u8 (p).ttl, .int .u8 (p).proto, .int .u32 (p).src, .int .u32 (p).dst, .slice A1 n1 c1, .slice A2 n2 c2]), .agg #[.int .u16 a, .int .u16 b], .int .i64 E] w (TtPost w (tuP p a b E) E) := by
  by_cases h0 : E = 0
  · subst h0
    go_enter Try.func43, Try.ntmps43
    go_wp2_with fail
    exact bodyPost_ret (v := .tuple #[(.agg #[.int .u8 ((⟨p.proto, p.src, p.dst, a, b⟩ : Tup)).proto, .int .u32 ((⟨p.proto, p.src, p.dst, a, b⟩ : Tup)).src, .int .u32 ((⟨p.proto, p.src, p.dst, a, b⟩ : Tup)).dst, .int .u16 ((⟨p.proto, p.src, p.dst, a, b⟩ : Tup)).sp, .int .u16 ((⟨p.proto, p.src, p.dst, a, b⟩ : Tup)).dp]), .int .i64 0]) (by simp [results, Try.results43, go_sem]) rfl ⟨⟨rfl, by (repeat (first | with_reducible exact Below.refl _ _ | with_reducible refine below_drew ?_ | with_reducible refine below_drewN ?_ _ | with_reducible refine below_alloc ?_ (Nat.le_refl _) _ | with_reducible refine Below.setCell ?_ (by first | exact Nat.le_refl _ | (simp only []; omega)) _ | with_reducible assumption))⟩⟩
  · have h0b : (E != 0) = true := by simpa using h0
    have hz : tuP p a b E = zT := by unfold tuP; rw [if_pos h0]
    rw [hz]
    clear h0 hz
    go_enter Try.func43, Try.ntmps43
    go_wp2_with fail
    exact bodyPost_ret (v := .tuple #[(.agg #[.int .u8 (zT).proto, .int .u32 (zT).src, .int .u32 (zT).dst, .int .u16 (zT).sp, .int .u16 (zT).dp]), .int .i64 E]) (by simp [results, Try.results43, go_sem, zT]) rfl ⟨⟨rfl, by (repeat (first | with_reducible exact Below.refl _ _ | with_reducible refine below_drew ?_ | with_reducible refine below_drewN ?_ _ | with_reducible refine below_alloc ?_ (Nat.le_refl _) _ | with_reducible refine Below.setCell ?_ (by first | exact Nat.le_refl _ | (simp only []; omega)) _ | with_reducible assumption))⟩⟩
end Go.Proofs.Ytjhpmeagopdaiaa


/- Parts of the proofs of this seat, laid together. -/
import Derived.BigRegionIn
import Derived.OwnWalkIn
import Derived.Lib.AppendZerosOnto
import Derived.Laws.CopyRow
import Derived.ChangeKeysEq
import Derived.Test.YtjjhnjkmoogloaaSa1
namespace Go.Proofs.Ytjjhnjkmoogloaa
open Go.RowKit
set_option linter.unusedVariables false
set_option linter.unusedSimpArgs false
set_option maxHeartbeats 4000000
set_option maxRecDepth 100000
theorem store478 {W : World} {r : Nat} {c0 c1 c2 c3 c4 c5 c6 c7 c8 : Value} {t : TypeId} (R : Blk W r #[c0, c1, c2, c3, c4, c5, c6, c7, c8] t) (v4 v7 v8 : Value) :
    ∃ wf, (((W.setCell ⟨r, 4, none⟩ v4).setCell ⟨r, 7, none⟩ v7).setCell ⟨r, 8, none⟩ v8) = wf ∧ Sto W r wf #[c0, c1, c2, c3, v4, c5, c6, v7, v8] t := by
  have h := (((Sto.nil R).set 4 v4).set 7 v7).set 8 v8
  simp only [List.setIfInBounds_toArray, List.set_cons_zero, List.set_cons_succ] at h
  exact ⟨_, rfl, h⟩
def isCat (lv : Value) (d : List UInt8) (w : World) : Prop := ∀ W, Below w.heap.size w W → Calls Try.prog 49 #[lv] W fun e w' => ∃ A n c, e = .returned (.slice A n c) ∧ Own w' W.heap.size 5 A n c d ∧ Below W.heap.size W w'
def isTup (B : Nat) (P : Pkt) (E : Int) : World → Value → Prop := fun W v => ∃ C1 e1 f1 C2 e2 f2, v = .tuple #[(.agg #[.int .u8 (P).tos, .int .u16 (P).id, .bool (P).keep, .int .u8 (P).ttl, .int .u8 (P).proto, .int .u32 (P).src, .int .u32 (P).dst, .slice C1 e1 f1, .slice C2 e2 f2]), .int .i64 E] ∧ Own W B 5 C1 e1 f1 P.opt ∧ Own W B 5 C2 e2 f2 P.dat
theorem st_isTup {B : Nat} {P : Pkt} {E : Int} : ∀ w w' v, isTup B P E w v → Below w.heap.size w w' → isTup B P E w' v := fun _ _ _ ⟨A, b, c, d, e, f, h, k, l⟩ hb => ⟨A, b, c, d, e, f, h, k.below hb, l.below hb⟩
def isPk (B : Nat) (P : Pkt) : World → Value → Prop := fun W v => ∃ C1 e1 f1 C2 e2 f2, v = (.agg #[.int .u8 (P).tos, .int .u16 (P).id, .bool (P).keep, .int .u8 (P).ttl, .int .u8 (P).proto, .int .u32 (P).src, .int .u32 (P).dst, .slice C1 e1 f1, .slice C2 e2 f2]) ∧ Own W B 5 C1 e1 f1 P.opt ∧ Own W B 5 C2 e2 f2 P.dat
theorem st_isPk {B : Nat} {P : Pkt} : ∀ w w' v, isPk B P w v → Below w.heap.size w w' → isPk B P w' v := fun _ _ _ ⟨A, b, c, d, e, f, h, k, l⟩ hb => ⟨A, b, c, d, e, f, h, k.below hb, l.below hb⟩
theorem goes_pk {B : Nat} {P : Pkt} {C1 C2 : Option Addr} {e1 f1 e2 f2 : Nat} {w : World} (h1 : Own w B 5 C1 e1 f1 P.opt) (h2 : Own w B 5 C2 e2 f2 P.dat) :
    OpGoes Try.prog (fun v w' => (Kd.p (isPk B P)).holds w' v ∧ Below w.heap.size w w') (.ok (.value (.agg #[.int .u8 (P).tos, .int .u16 (P).id, .bool (P).keep, .int .u8 (P).ttl, .int .u8 (P).proto, .int .u32 (P).src, .int .u32 (P).dst, .slice C1 e1 f1, .slice C2 e2 f2])) w) := ⟨⟨_, _, _, _, _, _, rfl, h1, h2⟩, Below.refl _ _⟩
theorem ret_tup {B : Nat} {P : Pkt} {E : Int} {C1 C2 : Option Addr} {e1 f1 e2 f2 : Nat} {w w' : World} (h1 : Own w' B 5 C1 e1 f1 P.opt) (h2 : Own w' B 5 C2 e2 f2 P.dat) (hB : Below w.heap.size w w') :
    ∃ v, Ending.returned (.tuple #[(.agg #[.int .u8 (P).tos, .int .u16 (P).id, .bool (P).keep, .int .u8 (P).ttl, .int .u8 (P).proto, .int .u32 (P).src, .int .u32 (P).dst, .slice C1 e1 f1, .slice C2 e2 f2]), .int .i64 E]) = .returned v ∧ (Kd.p (isTup B P E)).holds w' v ∧ Below w.heap.size w w' := ⟨_, rfl, ⟨_, _, _, _, _, _, rfl, h1, h2⟩, hB⟩
structure isC (L : List UInt8) (W : World) (v : Value) : Prop where
  out : ∀ W', Below W.heap.size W W' → Calls Try.prog 49 #[v] W' fun e w' => ∃ A n c, e = .returned (.slice A n c) ∧ Own w' W'.heap.size 5 A n c L ∧ Below W'.heap.size W' w'
theorem st_isC {L : List UInt8} : ∀ w w' v, isC L w v → Below w.heap.size w w' → isC L w' v := fun w w' v h hb => ⟨fun W hB => h.out W (below_then hb hB)⟩
theorem isCat3 {W0 : World} {g n1 c1 n2 c2 n3 c3 cc : Nat} {A1 A2 A3 : Option Addr} {l1 l2 l3 : List UInt8} {T : TypeId} (G : Blk W0 g #[.slice A1 n1 c1, .slice A2 n2 c2, .slice A3 n3 c3] T) (k1 : Bs W0 A1 n1 c1 l1) (k2 : Bs W0 A2 n2 c2 l2) (k3 : Bs W0 A3 n3 c3 l3) (h : n1 + n2 + n3 ≤ 200000000000000) :
    isCat (.slice (some ⟨g, 0, none⟩) 3 cc) (l1 ++ l2 ++ l3) W0 := by
  intro W hB
  have G' := G.below hB
  have gc := G'.cell.1
  have := concat_any g 3 cc (fun j => if j = 0 then A1 else if j = 1 then A2 else A3) (fun j => if j = 0 then n1 else if j = 1 then n2 else n3) (fun j => if j = 0 then c1 else if j = 1 then c2 else c3) (fun j => if j = 0 then l1 else if j = 1 then l2 else l3) (by omega) W G'.lt (fun j hj => by
      rw [gc]
      have : j = 0 ∨ j = 1 ∨ j = 2 := by omega
      rcases this with rfl | rfl | rfl <;> rfl) (fun j hj => by
      have : j = 0 ∨ j = 1 ∨ j = 2 := by omega
      rcases this with rfl | rfl | rfl
      · exact k1.below hB
      · exact k2.below hB
      · exact k3.below hB) (by simp [catN]; omega)
  exact this
theorem isCat2' {W0 : World} {g n1 c1 n2 c2 cc : Nat} {A1 A2 : Option Addr} {l1 l2 : List UInt8} {T : TypeId} (G : Blk W0 g #[.slice A1 n1 c1, .slice A2 n2 c2] T) (k1 : Bs W0 A1 n1 c1 l1) (k2 : Bs W0 A2 n2 c2 l2) (h : n1 + n2 ≤ 200000000000000) :
    isCat (.slice (some ⟨g, 0, none⟩) 2 cc) (l1 ++ l2) W0 := by
  intro W hB
  have G' := G.below hB
  have gc := G'.cell.1
  have := concat_any g 2 cc (fun j => if j = 0 then A1 else A2) (fun j => if j = 0 then n1 else n2) (fun j => if j = 0 then c1 else c2) (fun j => if j = 0 then l1 else l2) (by omega) W G'.lt (fun j hj => by
      rw [gc]
      have : j = 0 ∨ j = 1 := by omega
      rcases this with rfl | rfl <;> rfl) (fun j hj => by
      have : j = 0 ∨ j = 1 := by omega
      rcases this with rfl | rfl
      · exact k1.below hB
      · exact k2.below hB) (by simp [catN]; omega)
  exact this
theorem goes_cat3 {W : World} {n1 c1 n2 c2 n3 c3 : Nat} {A1 A2 A3 : Option Addr} {l1 l2 l3 : List UInt8} {T : TypeId} (k1 : Bs W A1 n1 c1 l1) (k2 : Bs W A2 n2 c2 l2) (k3 : Bs W A3 n3 c3 l3) (h : n1 + n2 + n3 ≤ 200000000000000) :
    OpGoes Try.prog (fun v w' => (Kd.p (isC (l1 ++ (l2 ++ l3)))).holds w' v ∧ Below W.heap.size W w') (.ok (.value (.slice (some ⟨W.heap.size, 0, none⟩) 3 3)) (W.alloc (.cells #[.slice A1 n1 c1, .slice A2 n2 c2, .slice A3 n3 c3] T))) :=
  ⟨⟨by rw [← List.append_assoc]; exact isCat3 (blk_new W _ T _ rfl) (k1.alloc _) (k2.alloc _) (k3.alloc _) h⟩, (Below.refl _ W).alloc (Nat.le_refl _) _⟩
theorem goes_mkb {W : World} {z : Nat} (hz : z ≤ 200000000000000) :
    OpGoes Try.prog (fun v w' => (Kd.b z (zs z)).holds w' v ∧ Below W.heap.size W w') (.ok (.value (.slice (some ⟨W.heap.size, 0, none⟩) z z)) (W.alloc (.cells (cu (zs z)).toArray 5))) :=
  ⟨⟨_, _, rfl, bs_lit (zs z) z (zs_length z) hz⟩, (Below.refl _ W).alloc (Nat.le_refl _) _⟩
theorem psum_more (p : Pkt) (pr : Int) (b : List UInt8) (k : Nat) : csum (pseudo p.src p.dst pr b.length ++ b ++ zs k) = psum p pr b := by rw [csum_behind]; rfl
theorem fits_any (p : Pkt) (hp : p.Ok) (A1 : Option Addr) (n1 c1 : Nat) (A2 : Option Addr) (n2 c2 : Nat) (pr : Int) (p0 : 0 ≤ pr) (p1 : pr ≤ 255) (w : World) (k2 : Bs w A2 n2 c2 p.dat) (hn2 : n2 ≤ 140737488400000) :
    Calls Try.prog 36 #[(.agg #[.int .u8 (p).tos, .int .u16 (p).id, .bool (p).keep, .int .u8 (p).ttl, .int .u8 (p).proto, .int .u32 (p).src, .int .u32 (p).dst, .slice A1 n1 c1, .slice A2 n2 c2]), .int .u8 pr] w fun e w' => e = .returned (.bool (psum p pr p.dat == 0)) ∧ Below w.heap.size w w' := by
  have l2 := k2.len
  have HS : Hid (csum (pseudo p.src p.dst pr n2 ++ (p.dat ++ zs (n2 % 2))) = psum p pr p.dat) := by unfold Hid; rw [← l2, ← List.append_assoc]; exact psum_more p pr p.dat _
  obtain ⟨-, -, -, -, ⟨o5, o5'⟩, ⟨o6, o6'⟩⟩ := hp
  have hrem : ((n2 : Int)).tmod 2 = ((n2 % 2 : Nat) : Int) := by rw [Int.tmod_eq_emod_of_nonneg (by omega)]; omega
  obtain ⟨z, hz⟩ : ∃ z : Nat, n2 % 2 = z := ⟨_, rfl⟩
  rw [hz] at hrem HS
  have hz1 : z ≤ 1 := by omega
  have hmk : ∀ W, (Instr.makeSlice 24 (.int .i64 (z : Int)) (.int .i64 (z : Int))).run Try.prog W = .ok (.slice (some ⟨W.heap.size, 0, none⟩) z z) (W.alloc (.cells (cu (zs z)).toArray 5)) := fun W => by
    obtain ⟨i, hi, hz', hs, hb⟩ := info_parts info_u8
    have hr := run_make (P := Try.prog) W 24 5 i (.int .u8 0) Try.underlying24 hi hz' .i64 .i64 z z (by omega) (by omega) (by rw [hb]; omega) (by omega)
    simp only [hs, Nat.mul_one] at hr
    rw [hr, cu_zs]
    rfl
  clear l2 hz
  obtain ⟨k, hk, w1, hw1, P1, R1⟩ := nwI1 w #[.int .u8 (p).tos, .int .u16 (p).id, .bool (p).keep, .int .u8 (p).ttl, .int .u8 (p).proto, .int .u32 (p).src, .int .u32 (p).dst, .slice A1 n1 c1, .slice A2 n2 c2] 26
  have Pc1 := P1.cell
  have Pl1 := P1.lt
  have x1 := (k2).below R1
  clear k2
  go_enter Try.func36, Try.ntmps36
  go_wp2_with fail
  refine region_txt 19 (by kernel_rfl) (by kernel_rfl) ?_; (iterate 19 (first | (apply ObsK.skip (by rfl)) | (apply ObsK.v (by rfl); (intro wo hT; (repeat (first | (intro v hv; ((first | (obtain ⟨A7, n7, c7, rfl, o7⟩ := hv; have ob7 := o7.bs) | (have hcat := hv.out)))) | (intro _ _ k; try have hcv := cv k))); (have pc := (P1.below hT).cell; have xo := x1.below hT; have hsz : w1.heap.size ≤ wo.heap.size := hT.size); refine Goes.mk ?_; go_simp; first | exact goes_v | exact goes_b (by assumption) | (first | exact goes_mkb (by omega) | exact goes_cat3 (by assumption) (by assumption) (by assumption) (by omega)) | (refine goes_enter ?_; first | (go_at_call 68; ((with_reducible refine (pseudo_any p.src p.dst pr n2 o5 o5' o6 o6' p0 p1 (by omega) (by omega) wo).mono ?_); rintro e w9 ⟨A9, c9, rfl, ho9, hB9⟩); exact ret_b ho9.bs hB9) | (go_at_call 49; ((with_reducible refine (hcat wo (Below.refl _ _)).mono ?_); rintro e w9 ⟨A9, n9, c9, rfl, ho9, hB9⟩); exact ret_p (own_isW ho9 hsz) hB9) | (go_at_call 67; ((with_reducible refine (good_any A7 n7 c7 _ wo ob7).mono ?_); rintro e w9 ⟨rfl, hB9⟩); exact ret_v hB9)))) | (apply ObsK.b (by rfl); (intro wo hT; (repeat (first | (intro v hv; ((first | (obtain ⟨A7, n7, c7, rfl, o7⟩ := hv; have ob7 := o7.bs) | (have hcat := hv.out)))) | (intro _ _ k; try have hcv := cv k))); (have pc := (P1.below hT).cell; have xo := x1.below hT; have hsz : w1.heap.size ≤ wo.heap.size := hT.size); refine Goes.mk ?_; go_simp; first | exact goes_v | exact goes_b (by assumption) | (first | exact goes_mkb (by omega) | exact goes_cat3 (by assumption) (by assumption) (by assumption) (by omega)) | (refine goes_enter ?_; first | (go_at_call 68; ((with_reducible refine (pseudo_any p.src p.dst pr n2 o5 o5' o6 o6' p0 p1 (by omega) (by omega) wo).mono ?_); rintro e w9 ⟨A9, c9, rfl, ho9, hB9⟩); exact ret_b ho9.bs hB9) | (go_at_call 49; ((with_reducible refine (hcat wo (Below.refl _ _)).mono ?_); rintro e w9 ⟨A9, n9, c9, rfl, ho9, hB9⟩); exact ret_p (own_isW ho9 hsz) hB9) | (go_at_call 67; ((with_reducible refine (good_any A7 n7 c7 _ wo ob7).mono ?_); rintro e w9 ⟨rfl, hB9⟩); exact ret_v hB9)))) | (apply ObsK.p (q := isC (pseudo p.src p.dst pr n2 ++ (p.dat ++ zs z))) (by rfl) st_isC; (intro wo hT; (repeat (first | (intro v hv; ((first | (obtain ⟨A7, n7, c7, rfl, o7⟩ := hv; have ob7 := o7.bs) | (have hcat := hv.out)))) | (intro _ _ k; try have hcv := cv k))); (have pc := (P1.below hT).cell; have xo := x1.below hT; have hsz : w1.heap.size ≤ wo.heap.size := hT.size); refine Goes.mk ?_; go_simp; first | exact goes_v | exact goes_b (by assumption) | (first | exact goes_mkb (by omega) | exact goes_cat3 (by assumption) (by assumption) (by assumption) (by omega)) | (refine goes_enter ?_; first | (go_at_call 68; ((with_reducible refine (pseudo_any p.src p.dst pr n2 o5 o5' o6 o6' p0 p1 (by omega) (by omega) wo).mono ?_); rintro e w9 ⟨A9, c9, rfl, ho9, hB9⟩); exact ret_b ho9.bs hB9) | (go_at_call 49; ((with_reducible refine (hcat wo (Below.refl _ _)).mono ?_); rintro e w9 ⟨A9, n9, c9, rfl, ho9, hB9⟩); exact ret_p (own_isW ho9 hsz) hB9) | (go_at_call 67; ((with_reducible refine (good_any A7 n7 c7 _ wo ob7).mono ?_); rintro e w9 ⟨rfl, hB9⟩); exact ret_v hB9)))) | (apply ObsK.p (q := isW w1.heap.size (pseudo p.src p.dst pr n2 ++ (p.dat ++ zs z))) (by rfl) st_isW; (intro wo hT; (repeat (first | (intro v hv; ((first | (obtain ⟨A7, n7, c7, rfl, o7⟩ := hv; have ob7 := o7.bs) | (have hcat := hv.out)))) | (intro _ _ k; try have hcv := cv k))); (have pc := (P1.below hT).cell; have xo := x1.below hT; have hsz : w1.heap.size ≤ wo.heap.size := hT.size); refine Goes.mk ?_; go_simp; first | exact goes_v | exact goes_b (by assumption) | (first | exact goes_mkb (by omega) | exact goes_cat3 (by assumption) (by assumption) (by assumption) (by omega)) | (refine goes_enter ?_; first | (go_at_call 68; ((with_reducible refine (pseudo_any p.src p.dst pr n2 o5 o5' o6 o6' p0 p1 (by omega) (by omega) wo).mono ?_); rintro e w9 ⟨A9, c9, rfl, ho9, hB9⟩); exact ret_b ho9.bs hB9) | (go_at_call 49; ((with_reducible refine (hcat wo (Below.refl _ _)).mono ?_); rintro e w9 ⟨A9, n9, c9, rfl, ho9, hB9⟩); exact ret_p (own_isW ho9 hsz) hB9) | (go_at_call 67; ((with_reducible refine (good_any A7 n7 c7 _ wo ob7).mono ?_); rintro e w9 ⟨rfl, hB9⟩); exact ret_v hB9)))))); refine ObsK.nil ?_; intro wz hBz; simp only [finOn, List.drop_succ_cons, List.drop_zero, List.drop_nil]
  rintro v7 ⟨A7, n7, c7, rfl, o7⟩ v8 hv8 A5 c5 k5 A6 c6 k6
  go_simp
  go_wp2_with fail
  go_ret
  exact ⟨congrArg (fun z => Ending.returned (.bool (z == 0))) HS.out, below_then R1 hBz⟩
theorem ssum_any (p : Pkt) (hp : p.Ok) (A1 : Option Addr) (n1 c1 : Nat) (A2 : Option Addr) (n2 c2 : Nat) (pr : Int) (p0 : 0 ≤ pr) (p1 : pr ≤ 255) (A3 : Option Addr) (n3 c3 : Nat) (b : List UInt8) (w : World) (k3 : Bs w A3 n3 c3 b) (hn3 : n3 ≤ 140737488400000) :
    Calls Try.prog 51 #[(.agg #[.int .u8 (p).tos, .int .u16 (p).id, .bool (p).keep, .int .u8 (p).ttl, .int .u8 (p).proto, .int .u32 (p).src, .int .u32 (p).dst, .slice A1 n1 c1, .slice A2 n2 c2]), .int .u8 pr, .slice A3 n3 c3] w fun e w' => e = .returned (.int .u16 (psum p pr b)) ∧ Below w.heap.size w w' := by
  have l3 := k3.len
  have HS : Hid (csum (pseudo p.src p.dst pr n3 ++ b) = psum p pr b) := by unfold Hid psum; rw [l3]
  obtain ⟨-, -, -, -, ⟨o5, o5'⟩, ⟨o6, o6'⟩⟩ := hp
  clear l3
  obtain ⟨k, hk, w1, hw1, P1, R1⟩ := nwI1 w #[.int .u8 (p).tos, .int .u16 (p).id, .bool (p).keep, .int .u8 (p).ttl, .int .u8 (p).proto, .int .u32 (p).src, .int .u32 (p).dst, .slice A1 n1 c1, .slice A2 n2 c2] 26
  have Pc1 := P1.cell
  have Pl1 := P1.lt
  have x1 := (k3).below R1
  clear k3
  go_enter Try.func51, Try.ntmps51
  go_wp2_with (first
    | (go_at_call 68; ((with_reducible refine (pseudo_any p.src p.dst pr n3 o5 o5' o6 o6' p0 p1 (by omega) (by omega) _).mono ?_); rintro e w2 ⟨A2, c2, rfl, o2, hB2⟩); have y2 := o2.bs; have P2 := P1.below hB2; have Pc2 := P2.cell; clear Pc1; have x2 := x1.below hB2; have R2 := below_then R1 hB2; have G := isC.mk (isCat2' (cc := 2) (blk_new w2 #[.slice A2 12 c2, .slice A3 n3 c3] 24 _ rfl) (y2.alloc _) (x2.alloc _) (by omega)))
    | (go_at_call 49; ((with_reducible refine (G.out _ (Below.refl _ _)).mono ?_); rintro e w3 ⟨A9, n9, c9, rfl, ho9, hB9⟩); have R3 := below_then (below_alloc R2 (Nat.le_refl _) _) hB9)
    | (go_at_call 65; ((with_reducible refine (sum_any A9 n9 c9 _ _ ho9.bs).mono ?_); rintro e w4 ⟨rfl, hB4⟩)))
  go_ret
  exact ⟨congrArg (fun z => Ending.returned (.int .u16 z)) HS.out, below_then R3 hB4⟩
structure SwPost (w : World) (p : Pkt) (pr : Int) (A3 : Option Addr) (n3 c3 : Nat) (e : Ending) (w' : World) : Prop where
  out : ∃ A4 n4 c4, e = .returned (.tuple #[.agg #[.int .u8 p.tos, .int .u16 p.id, .bool p.keep, .int .u8 p.ttl, .int .u8 pr, .int .u32 p.src, .int .u32 p.dst, .slice A4 n4 c4, .slice A3 n3 c3], .int .i64 0]) ∧ Own w' w.heap.size 5 A4 n4 c4 p.opt ∧ Below w.heap.size w w'
theorem swith_no (p : Pkt) (A1 : Option Addr) (n1 c1 : Nat) (A2 : Option Addr) (n2 c2 : Nat) (pr : Int) (A3 : Option Addr) (n3 c3 : Nat) (d : List UInt8) (w : World) (k1 : Bs w A1 n1 c1 p.opt) (k3 : Bs w A3 n3 c3 d) (E : Int)
    (h : (E = 4 ∧ 40 < (n1 : Int)) ∨ (E = 4 ∧ (n1 : Int) ≤ 40 ∧ ((n1 : Int) % 4 != 0) = true) ∨ (E = 8 ∧ (n1 : Int) ≤ 40 ∧ ((n1 : Int) % 4 != 0) = false ∧ rightP { p with proto := pr, dat := d } = false)) :
    Calls Try.prog 48 #[(.agg #[.int .u8 (p).tos, .int .u16 (p).id, .bool (p).keep, .int .u8 (p).ttl, .int .u8 (p).proto, .int .u32 (p).src, .int .u32 (p).dst, .slice A1 n1 c1, .slice A2 n2 c2]), .int .u8 pr, .slice A3 n3 c3] w (WiPost w zP E) := by
  have b1 := k1.max
  have hr := fun W A4 c4 k k3 => right_any { p with proto := pr, dat := d } A4 n1 c4 A3 n3 c3 W k k3
  obtain ⟨k, hk, w1, hw1, P1, Z1, R1⟩ := nwI2 w #[.int .u8 (p).tos, .int .u16 (p).id, .bool (p).keep, .int .u8 (p).ttl, .int .u8 (p).proto, .int .u32 (p).src, .int .u32 (p).dst, .slice A1 n1 c1, .slice A2 n2 c2] 26 #[.int .u8 0, .int .u16 0, .bool false, .int .u8 0, .int .u8 0, .int .u32 0, .int .u32 0, .slice none 0 0, .slice none 0 0] 26
  have Pc1 := P1.cell
  have Zc1 := Z1.cell
  have Pl1 := P1.lt
  have Zl1 := Z1.lt
  have x1 := (k1).below R1
  have y1 := (k3).below R1
  clear k1
  rcases h with ⟨rfl, h1⟩ | ⟨rfl, h1, h2⟩ | ⟨rfl, h1, h2, h3⟩
  · go_enter Try.func48, Try.ntmps48
    go_wp2_with (first
      | (go_at_call 40; ((with_reducible refine (clone_any A1 n1 c1 p.opt _ x1).mono ?_); rintro e w2 ⟨A4, c4, rfl, ho4, hB2⟩); have P2 := P1.below hB2; have Pc2 := P2.cell; have Z2 := Z1.below hB2; (obtain ⟨w5, hw5, S5⟩ := store478 P2 (.int .u8 pr) (.slice A4 n1 c4) (.slice A3 n3 c3)); have pc5 := S5.blk.cell; have T5 := S5.bel (below_then R1 hB2) (by omega); have Z5 := S5.other (by omega) Z2; have zc5 := Z5.cell)
      | fail)
    obtain ⟨wf, hwf, Sf⟩ := store9 Z5 (.int .u8 0) (.int .u16 0) (.bool false) (.int .u8 0) (.int .u8 0) (.int .u32 0) (.int .u32 0) (.slice none 0 0) (.slice none 0 0)
    rw [hwf]
    have pf := Sf.blk.cell
    exact bodyPost_ret (by simp [results, Try.results48, go_sem, pf]) rfl (wiPost_no (Sf.bel T5 (by omega)))
  · go_enter Try.func48, Try.ntmps48
    go_wp2_with (first
      | (go_at_call 40; ((with_reducible refine (clone_any A1 n1 c1 p.opt _ x1).mono ?_); rintro e w2 ⟨A4, c4, rfl, ho4, hB2⟩); have P2 := P1.below hB2; have Pc2 := P2.cell; have Z2 := Z1.below hB2; (obtain ⟨w5, hw5, S5⟩ := store478 P2 (.int .u8 pr) (.slice A4 n1 c4) (.slice A3 n3 c3)); have pc5 := S5.blk.cell; have T5 := S5.bel (below_then R1 hB2) (by omega); have Z5 := S5.other (by omega) Z2; have zc5 := Z5.cell)
      | fail)
    obtain ⟨wf, hwf, Sf⟩ := store9 Z5 (.int .u8 0) (.int .u16 0) (.bool false) (.int .u8 0) (.int .u8 0) (.int .u32 0) (.int .u32 0) (.slice none 0 0) (.slice none 0 0)
    rw [hwf]
    have pf := Sf.blk.cell
    exact bodyPost_ret (by simp [results, Try.results48, go_sem, pf]) rfl (wiPost_no (Sf.bel T5 (by omega)))
  · rw [h3] at hr
    clear h3
    go_enter Try.func48, Try.ntmps48
    go_wp2_with (first
      | (go_at_call 40; ((with_reducible refine (clone_any A1 n1 c1 p.opt _ x1).mono ?_); rintro e w2 ⟨A4, c4, rfl, ho4, hB2⟩); have P2 := P1.below hB2; have Pc2 := P2.cell; have Z2 := Z1.below hB2; (obtain ⟨w5, hw5, S5⟩ := store478 P2 (.int .u8 pr) (.slice A4 n1 c4) (.slice A3 n3 c3)); have pc5 := S5.blk.cell; have T5 := S5.bel (below_then R1 hB2) (by omega); have Z5 := S5.other (by omega) Z2; have zc5 := Z5.cell; have O5 := S5.own ho4 (fun a e => by have := ho4.ge a e; omega); have y5 := k3.below T5)
      | (go_at_call 75; ((with_reducible refine (hr w5 A4 c4 O5.bs y5).mono ?_); rintro e w6 ⟨rfl, hB6⟩); have Z6 := Z5.below hB6; have zc6 := Z6.cell; have T6 := below_then T5 hB6))
    obtain ⟨wf, hwf, Sf⟩ := store9 Z6 (.int .u8 0) (.int .u16 0) (.bool false) (.int .u8 0) (.int .u8 0) (.int .u32 0) (.int .u32 0) (.slice none 0 0) (.slice none 0 0)
    rw [hwf]
    have pf := Sf.blk.cell
    exact bodyPost_ret (by simp [results, Try.results48, go_sem, pf]) rfl (wiPost_no (Sf.bel T6 (by omega)))
theorem swith_ok (p : Pkt) (A1 : Option Addr) (n1 c1 : Nat) (A2 : Option Addr) (n2 c2 : Nat) (pr : Int) (A3 : Option Addr) (n3 c3 : Nat) (d : List UInt8) (w : World) (k1 : Bs w A1 n1 c1 p.opt) (k3 : Bs w A3 n3 c3 d) (h : wiE p n3 = 0) :
    Calls Try.prog 48 #[(.agg #[.int .u8 (p).tos, .int .u16 (p).id, .bool (p).keep, .int .u8 (p).ttl, .int .u8 (p).proto, .int .u32 (p).src, .int .u32 (p).dst, .slice A1 n1 c1, .slice A2 n2 c2]), .int .u8 pr, .slice A3 n3 c3] w (SwPost w p pr A3 n3 c3) := by
  have b1 := k1.max
  have l1 := k1.len
  have l3 := k3.len
  have hq : p.opt.length ≤ 40 ∧ p.opt.length % 4 = 0 ∧ 20 + p.opt.length + n3 ≤ 65535 := by
    unfold wiE at h
    split at h
    · omega
    · split at h <;> omega
  have hr := fun W A4 c4 k k3 => right_any { p with proto := pr, dat := d } A4 n1 c4 A3 n3 c3 W k k3
  rw [show rightP { p with proto := pr, dat := d } = true from by unfold rightP; simp [l3]; omega] at hr
  have h1 : (n1 : Int) ≤ 40 := by omega
  have h2 : ((n1 : Int) % 4 != 0) = false := by simp; omega
  clear hq h l1 l3
  obtain ⟨k, hk, w1, hw1, P1, Z1, R1⟩ := nwI2 w #[.int .u8 (p).tos, .int .u16 (p).id, .bool (p).keep, .int .u8 (p).ttl, .int .u8 (p).proto, .int .u32 (p).src, .int .u32 (p).dst, .slice A1 n1 c1, .slice A2 n2 c2] 26 #[.int .u8 0, .int .u16 0, .bool false, .int .u8 0, .int .u8 0, .int .u32 0, .int .u32 0, .slice none 0 0, .slice none 0 0] 26
  have Pc1 := P1.cell
  have Zc1 := Z1.cell
  have Pl1 := P1.lt
  have Zl1 := Z1.lt
  have x1 := (k1).below R1
  have y1 := (k3).below R1
  clear k1
  go_enter Try.func48, Try.ntmps48
  go_wp2_with (first
    | (go_at_call 40; ((with_reducible refine (clone_any A1 n1 c1 p.opt _ x1).mono ?_); rintro e w2 ⟨A4, c4, rfl, ho4, hB2⟩); have P2 := P1.below hB2; have Pc2 := P2.cell; have Z2 := Z1.below hB2; (obtain ⟨w5, hw5, S5⟩ := store478 P2 (.int .u8 pr) (.slice A4 n1 c4) (.slice A3 n3 c3)); have pc5 := S5.blk.cell; have T5 := S5.bel (below_then R1 hB2) (by omega); have Z5 := S5.other (by omega) Z2; have zc5 := Z5.cell; have O5 := S5.own ho4 (fun a e => by have := ho4.ge a e; omega); have y5 := k3.below T5)
    | (go_at_call 75; ((with_reducible refine (hr w5 A4 c4 O5.bs y5).mono ?_); rintro e w6 ⟨rfl, hB6⟩); have P6 := (S5.blk).below hB6; have pc6 := P6.cell; have Z6 := Z5.below hB6; have zc6 := Z6.cell; have T6 := below_then T5 hB6; have O6 := O5.below hB6))
  obtain ⟨wf, hwf, Sf⟩ := store9 Z6 (.int .u8 p.tos) (.int .u16 p.id) (.bool p.keep) (.int .u8 p.ttl) (.int .u8 pr) (.int .u32 p.src) (.int .u32 p.dst) (.slice A4 n1 c4) (.slice A3 n3 c3)
  rw [hwf]
  have pf := Sf.blk.cell
  have Of := Sf.own O6 (fun a e => by have := ho4.ge a e; omega)
  have r1 := R1.size
  exact bodyPost_ret (v := .tuple #[.agg #[.int .u8 p.tos, .int .u16 p.id, .bool p.keep, .int .u8 p.ttl, .int .u8 pr, .int .u32 p.src, .int .u32 p.dst, .slice A4 n1 c4, .slice A3 n3 c3], .int .i64 0]) (by simp [results, Try.results48, go_sem, pf]) rfl ⟨A4, n1, c4, rfl, Of.mono (by omega), Sf.bel T6 (by omega)⟩
theorem swith_bad (p : Pkt) (A1 : Option Addr) (n1 c1 : Nat) (A2 : Option Addr) (n2 c2 : Nat) (pr : Int) (A3 : Option Addr) (n3 c3 : Nat) (d : List UInt8) (w : World) (k1 : Bs w A1 n1 c1 p.opt) (k3 : Bs w A3 n3 c3 d) (h : wiE p n3 ≠ 0) :
    Calls Try.prog 48 #[(.agg #[.int .u8 (p).tos, .int .u16 (p).id, .bool (p).keep, .int .u8 (p).ttl, .int .u8 (p).proto, .int .u32 (p).src, .int .u32 (p).dst, .slice A1 n1 c1, .slice A2 n2 c2]), .int .u8 pr, .slice A3 n3 c3] w (WiPost w zP (wiE p n3)) := by
  have l1 := k1.len
  have l3 := k3.len
  by_cases h1 : (n1 : Int) ≤ 40
  · by_cases h2 : n1 % 4 = 0
    · by_cases h3 : 20 + (n1 : Int) + (n3 : Int) ≤ 65535
      · exact absurd (wiE_0 l1 h1 h2 h3) h
      · rw [wiE_8 l1 h1 h2 (by omega)]
        exact swith_no p A1 n1 c1 A2 n2 c2 pr A3 n3 c3 d w k1 k3 8 (.inr (.inr ⟨rfl, h1, m4_no h2, by unfold rightP; simp [l1, l3]; omega⟩))
    · rw [wiE_4 l1 (.inr h2)]
      exact swith_no p A1 n1 c1 A2 n2 c2 pr A3 n3 c3 d w k1 k3 4 (.inr (.inl ⟨rfl, h1, m4_yes h2⟩))
  · rw [wiE_4 l1 (.inl (by omega))]
    exact swith_no p A1 n1 c1 A2 n2 c2 pr A3 n3 c3 d w k1 k3 4 (.inl ⟨rfl, by omega⟩)
end Go.Proofs.Ytjjhnjkmoogloaa
namespace Go.Proofs.Ytjjhnjkmoogloaa
open Go.RowKit Go.Shelf
set_option linter.unusedVariables false
set_option linter.unusedSimpArgs false
attribute [local go_sem] Oper.semAt_some jump_normal jump_exit jump_ret jump_panic jump_goto
set_option linter.unusedVariables false
set_option linter.unusedSimpArgs false
set_option maxHeartbeats 8000000
set_option maxRecDepth 100000
structure TcPost (w : World) (s : Seg) (E : Int) (e : Ending) (w' : World) : Prop where
  out : ∃ OA on oc DA dn dc, e = .returned (.tuple #[(.agg #[.int .u16 (s).src, .int .u16 (s).dst, .int .u32 (s).seq, .int .u32 (s).ack, .int .u8 (s).flags, .int .u16 (s).win, .int .u16 (s).urg, .slice OA on oc, .slice DA dn dc]), .int .i64 E]) ∧ OsO w' w.heap.size OA on oc s.opts ∧ on ≤ 40 ∧ Own w' w.heap.size 5 DA dn dc s.dat ∧ Below w.heap.size w w'
theorem tcPost_no {w w' : World} {E : Int} (hB : Below w.heap.size w w') : TcPost w zS E (.returned (.tuple #[.agg #[.int .u16 0, .int .u16 0, .int .u32 0, .int .u32 0, .int .u8 0, .int .u16 0, .int .u16 0, .slice none 0 0, .slice none 0 0], .int .i64 E])) w' :=
  ⟨none, 0, 0, none, 0, 0, rfl, osO_nil _ _, by omega, own_nil _ _ _, hB⟩
structure TcJ (w : World) (k : Nat) (E : Int) (a : Act) (W : World) : Prop where
  size : a.tmps.size = 87
  t2 : a.tmps[2]? = some (.pointer (some ⟨k + 1, 0, none⟩))
  t3 : a.tmps[3]? = some (.pointer (some ⟨k + 1 + 1, 0, none⟩))
  s : ∃ c0 c1 c2 c3 c4 c5 c6 c7 c8, Blk W (k + 1) #[c0, c1, c2, c3, c4, c5, c6, c7, c8] 29
  e : Blk W (k + 1 + 1) #[.int .i64 E] 30
  bel : Below w.heap.size w W
  de : a.defers = [] ∨ ∃ D, a.defers = [{ target := .collected D, args := #[] }] ∧ W.heap[D]? = some (.deferred (some [])) ∧ w.heap.size ≤ D
theorem heap_setCell_ne (W : World) (b o : Nat) (v : Value) (D : Nat) (h : b ≠ D) : (W.setCell ⟨b, o, none⟩ v).heap[D]? = W.heap[D]? := by
  simp [World.setCell, Array.getElem?_modify, h]
theorem tcp_no (p : Pkt) (hp : p.Ok) (A1 : Option Addr) (n1 c1 : Nat) (A2 : Option Addr) (n2 c2 : Nat) (w : World) (k2 : Bs w A2 n2 c2 p.dat) (E x q : Int) (hd : Nat) (hx : bt p.dat 12 = x) (hq : x / 16 = q) (hh : q * 4 = (hd : Int))
    (h : (E = 12 ∧ (p.proto != 6) = true) ∨ (E = 3 ∧ (p.proto != 6) = false ∧ (n2 : Int) < 20) ∨ (E = 4 ∧ (p.proto != 6) = false ∧ 20 ≤ (n2 : Int) ∧ (hd : Int) < 20) ∨ (E = 4 ∧ (p.proto != 6) = false ∧ 20 ≤ (n2 : Int) ∧ 20 ≤ (hd : Int) ∧ (x % 16 != 0) = true) ∨
      (E = 3 ∧ (p.proto != 6) = false ∧ 20 ≤ (n2 : Int) ∧ 20 ≤ (hd : Int) ∧ (x % 16 != 0) = false ∧ (n2 : Int) < (hd : Int)) ∨ (E = 5 ∧ (p.proto != 6) = false ∧ 20 ≤ (n2 : Int) ∧ 20 ≤ (hd : Int) ∧ (x % 16 != 0) = false ∧ (hd : Int) ≤ (n2 : Int) ∧ (psum p 6 p.dat == 0) = false ∧ n2 ≤ 140737488400000)) :
    Calls Try.prog 14 #[(.agg #[.int .u8 (p).tos, .int .u16 (p).id, .bool (p).keep, .int .u8 (p).ttl, .int .u8 (p).proto, .int .u32 (p).src, .int .u32 (p).dst, .slice A1 n1 c1, .slice A2 n2 c2])] w (TcPost w zS E) := by
  have b2 := k2.max
  obtain ⟨k, hk, w1, hw1, P1, S1, E1, R1⟩ := nwI3 w #[.int .u8 (p).tos, .int .u16 (p).id, .bool (p).keep, .int .u8 (p).ttl, .int .u8 (p).proto, .int .u32 (p).src, .int .u32 (p).dst, .slice A1 n1 c1, .slice A2 n2 c2] 26 #[.int .u16 0, .int .u16 0, .int .u32 0, .int .u32 0, .int .u8 0, .int .u16 0, .int .u16 0, .slice none 0 0, .slice none 0 0] 29 #[.int .i64 0] 30
  have Pc1 := P1.cell
  have Sc1 := S1.cell
  have Ec1 := E1.cell
  have Pl1 := P1.lt
  have Sl1 := S1.lt
  have El1 := E1.lt
  have x1 := (k2).below R1
  refine (callsIn_wide (n := 3)).1 ?_
  refine callsIn_of_wp_marks Try.func14 rfl trivial ?_ rfl
  simp only [Try.ntmps14, List.size_toArray, List.length_cons, List.length_nil, Nat.reduceAdd, Nat.reduceSub, Array.replicate_succ, Array.replicate_zero, List.push_toArray, List.append_toArray, List.nil_append, List.cons_append]
  gi_wp2
  refine wpIn_scope_fwd 0 (TcJ w k E) rfl ?first ?pass
  case pass =>
    rintro a W ⟨hs, h2, h3, ⟨d0, d1, d2, d3, d4, d5, d6, d7, d8, S⟩, Eb, hB, hde⟩
    obtain ⟨f, hf, hfv⟩ := slots hs
    have f2 := hfv 2 _ (by omega) h2
    have f3 := hfv 3 _ (by omega) h3
    obtain ⟨tm, df⟩ := a
    simp only at hf hde
    subst hf
    have sc := S.cell
    have ec := Eb.cell
    simp only [List.range, List.range.loop, List.map_cons, List.map_nil, f2, f3]
    have sl := S.lt
    have el := Eb.lt
    gi_wp2_with gi_region
    obtain ⟨wf, hwf, Sf⟩ := store9 S (.int .u16 0) (.int .u16 0) (.int .u32 0) (.int .u32 0) (.int .u8 0) (.int .u16 0) (.int .u16 0) (.slice none 0 0) (.slice none 0 0)
    rw [hwf]
    have Ef := Sf.other (k := k + 1 + 1) (by omega) Eb
    obtain ⟨wg, hwg, Sg⟩ := store1 Ef 0 (.int .i64 E)
    rw [hwg, Exit.noGoto_ret]
    have Sz := Sg.other (k := k + 1) (by omega) Sf.blk
    have pf := (Sz.drew).cell
    have pg := (Sg.blk.drew).cell
    have Tg := Sg.bel (Sf.bel hB (by omega)) (by omega)
    have hdn : ∀ D : Nat, W.heap[D]? = some (Obj.deferred (some [])) → wg.drew.heap[D]? = some (Obj.deferred (some [])) := fun D h => by
      have e1 : k + 1 ≠ D := fun e => by subst e; have := S.rd; rw [h] at this; cases this
      have e2 : k + 1 + 1 ≠ D := fun e => by subst e; have := Eb.rd; rw [h] at this; cases this
      show wg.heap[D]? = _
      rw [← hwg, ← hwf]
      simp only [heap_setCell_ne _ _ _ _ _ e1, heap_setCell_ne _ _ _ _ _ e2]
      exact h
    rcases hde with rfl | ⟨D, rfl, hD, hge⟩
    · show LeavesInM _ _ _ _ _ _ [] .returning _
      exact ⟨(.tuple #[.agg #[.int .u16 0, .int .u16 0, .int .u32 0, .int .u32 0, .int .u8 0, .int .u16 0, .int .u16 0, .slice none 0 0, .slice none 0 0], .int .i64 E]), by simp [results, Try.results14, go_sem, pf, pg], tcPost_no (below_drew Tg)⟩
    · show LeavesInM _ _ _ _ _ _ _ .returning _
      refine ⟨by simp, .inl ⟨_, _, rfl, run_takeDeferred (hdn D hD), ?_⟩⟩
      have d1 : k + 1 ≠ D := fun e => by subst e; have := S.rd; rw [hD] at this; cases this
      have d2 : k + 1 + 1 ≠ D := fun e => by subst e; have := Eb.rd; rw [hD] at this; cases this
      have pf2 : ∀ j, (wg.drew.putObj D (Obj.deferred none)).cell? ⟨k + 1, j, none⟩ = _ := fun j => (cell_putObj d1 _).trans (pf.1 j)
      have pg2 : ∀ j, (wg.drew.putObj D (Obj.deferred none)).cell? ⟨k + 1 + 1, j, none⟩ = _ := fun j => (cell_putObj d2 _).trans (pg.1 j)
      exact ⟨(.tuple #[.agg #[.int .u16 0, .int .u16 0, .int .u32 0, .int .u32 0, .int .u8 0, .int .u16 0, .int .u16 0, .slice none 0 0, .slice none 0 0], .int .i64 E]), by simp [results, Try.results14, go_sem, pf2, pg2], tcPost_no (below_putObj (below_drew Tg) hge _)⟩
  case first =>
    rcases h with ⟨rfl, h1⟩ | ⟨rfl, h1, h2⟩ | ⟨rfl, h1, h2, h3⟩ | ⟨rfl, h1, h2, h3, h4⟩ | ⟨rfl, h1, h2, h3, h4, h5⟩ | ⟨rfl, h1, h2, h3, h4, h5, h6, h7⟩
    · gi_wp2
      apply wpIn_goto
      have Eg := (E1.set_ 0 (.int .i64 3)).set_ 0 (.int .i64 12)
      exact ⟨rfl, rfl, rfl, rfl, ⟨_, _, _, _, _, _, _, _, _, (S1.far _ (by simp) _).far _ (by simp) _⟩, Eg, (R1.setCell (p := ⟨k + 1 + 1, 0, none⟩) (by simp only []; omega) _).setCell (p := ⟨k + 1 + 1, 0, none⟩) (by simp only []; omega) _, .inl rfl⟩
    · gi_wp2
      apply wpIn_goto
      have Eg := E1.set_ 0 (.int .i64 3)
      exact ⟨rfl, rfl, rfl, rfl, ⟨_, _, _, _, _, _, _, _, _, S1.far _ (by simp) _⟩, Eg, R1.setCell (p := ⟨k + 1 + 1, 0, none⟩) (by simp only []; omega) _, .inl rfl⟩
    · obtain ⟨b, off, rfl, hcs⟩ := x1.rd (by omega)
      have g12 := hcs 12 (by omega)
      have i12 : (12 : Int) < n2 := by omega
      have x0 := bt_lo p.dat 12
      have x255 := bt_hi p.dat 12
      rw [hx] at g12 x0 x255
      have hw1' : IntKind.i64.wrap q = q := by rw [IntKind.wrap_i64]; omega
      have hw2' : IntKind.i64.wrap (hd : Int) = hd := by rw [IntKind.wrap_i64]; omega
      have hand := and_u8_15 x0 x255
      clear hcs hx
      gi_wp2
      apply wpIn_goto
      have Eg := (E1.set_ 0 (.int .i64 3)).set_ 0 (.int .i64 4)
      exact ⟨rfl, rfl, rfl, rfl, ⟨_, _, _, _, _, _, _, _, _, (S1.far _ (by simp) _).far _ (by simp) _⟩, Eg, (R1.setCell (p := ⟨k + 1 + 1, 0, none⟩) (by simp only []; omega) _).setCell (p := ⟨k + 1 + 1, 0, none⟩) (by simp only []; omega) _, .inl rfl⟩
    · obtain ⟨b, off, rfl, hcs⟩ := x1.rd (by omega)
      have g12 := hcs 12 (by omega)
      have i12 : (12 : Int) < n2 := by omega
      have x0 := bt_lo p.dat 12
      have x255 := bt_hi p.dat 12
      rw [hx] at g12 x0 x255
      have hw1' : IntKind.i64.wrap q = q := by rw [IntKind.wrap_i64]; omega
      have hw2' : IntKind.i64.wrap (hd : Int) = hd := by rw [IntKind.wrap_i64]; omega
      have hand := and_u8_15 x0 x255
      clear hcs hx
      gi_wp2
      apply wpIn_goto
      have Eg := (E1.set_ 0 (.int .i64 3)).set_ 0 (.int .i64 4)
      exact ⟨rfl, rfl, rfl, rfl, ⟨_, _, _, _, _, _, _, _, _, (S1.far _ (by simp) _).far _ (by simp) _⟩, Eg, (R1.setCell (p := ⟨k + 1 + 1, 0, none⟩) (by simp only []; omega) _).setCell (p := ⟨k + 1 + 1, 0, none⟩) (by simp only []; omega) _, .inl rfl⟩
    · obtain ⟨b, off, rfl, hcs⟩ := x1.rd (by omega)
      have g12 := hcs 12 (by omega)
      have i12 : (12 : Int) < n2 := by omega
      have x0 := bt_lo p.dat 12
      have x255 := bt_hi p.dat 12
      rw [hx] at g12 x0 x255
      have hw1' : IntKind.i64.wrap q = q := by rw [IntKind.wrap_i64]; omega
      have hw2' : IntKind.i64.wrap (hd : Int) = hd := by rw [IntKind.wrap_i64]; omega
      have hand := and_u8_15 x0 x255
      clear hcs hx
      gi_wp2
      apply wpIn_goto
      have Eg := E1.set_ 0 (.int .i64 3)
      exact ⟨rfl, rfl, rfl, rfl, ⟨_, _, _, _, _, _, _, _, _, S1.far _ (by simp) _⟩, Eg, R1.setCell (p := ⟨k + 1 + 1, 0, none⟩) (by simp only []; omega) _, .inl rfl⟩
    · obtain ⟨b, off, rfl, hcs⟩ := x1.rd (by omega)
      have g12 := hcs 12 (by omega)
      have i12 : (12 : Int) < n2 := by omega
      have x0 := bt_lo p.dat 12
      have x255 := bt_hi p.dat 12
      rw [hx] at g12 x0 x255
      have hw1' : IntKind.i64.wrap q = q := by rw [IntKind.wrap_i64]; omega
      have hw2' : IntKind.i64.wrap (hd : Int) = hd := by rw [IntKind.wrap_i64]; omega
      have hand := and_u8_15 x0 x255
      clear hcs
      obtain ⟨w2, hw2, S2⟩ := store1 E1 0 (.int .i64 3)
      have P2 := S2.other (by omega) P1
      have pc2 := P2.cell
      have SS2 := S2.other (by omega) S1
      have R2 := S2.bel R1 (by omega)
      have x2 := k2.below R2
      have el2 := S2.blk.lt
      have g12b := x2.at_ (j := 12) (by omega)
      rw [hx] at g12b
      clear hx g12
      gi_wp2_with (refine ⟨trivial, ?_⟩; gi_at_call 36; refine (callsIn_wide.2 (fits_any p hp A1 n1 c1 _ n2 c2 6 (by omega) (by omega) w2 x2 h7)).mono ?_; rintro e w3 ⟨he, hB3⟩; (try rw [h6] at he); subst he; have E3 := (S2.blk).below hB3; have ec3 := E3.cell; have el3 := E3.lt)
      apply wpIn_goto
      exact ⟨rfl, rfl, rfl, rfl, ⟨_, _, _, _, _, _, _, _, _, (SS2.below hB3).far _ (by simp) _⟩, E3.set_ 0 (.int .i64 5), (below_then R2 hB3).setCell (p := ⟨k + 1 + 1, 0, none⟩) (by simp only []; omega) _, .inl rfl⟩
end Go.Proofs.Ytjjhnjkmoogloaa
namespace Go.Proofs.Ytjjhnjkmoogloaa
open Go.RowKit Go.Shelf
set_option linter.unusedVariables false
set_option linter.unusedSimpArgs false
theorem wpListIn_appG {F : Fence} {n₀ : Nat} {P : Program} {ops : Array Oper} {rest : List Oper} {o : Oper} {a : Act} {Q : Exit → Act → World → Prop} {w0 : World} (w : World) (hgd : o.guard = none) (s x : Operand) (t : TypeId) (ho : o.op = .call { callee := .builtin .append, args := #[s, x], argTypes := #[t, t] })
    (base : Nat) (e : TypeId) (i : TypeInfo) (z : Value) (size bytes : Nat) (ht : P.underlying t = some (.slice e)) (hi : P.info? e = some i) (hz : i.zero = some z) (hsize : i.size = size) (hby : i.bytes = bytes) (hzs : z.cells.size = size) (hsz : 0 < size) (hbs : bytes ≤ 64)
    (A : Option Addr) (n c : Nat) (xs : List Value) (hs : a.eval s = .slice A n c) (hown : OwnG w base e size A n c xs) (ad : Addr) (m c2 : Nat) (news : List Value) (hx : a.eval x = .slice (some ad) m c2) (hl : news.length = m * size)
    (hnews : ∀ j u, news[j]? = some u → w.cell? (ad.add j) = some u) (h1 : ∀ u ∈ news, u.oneCell' = true)
    (HB : Below base w0 w) (hmax : n + m ≤ 3000000000000) (hbase : base ≤ w.heap.size)
    (h : ∀ A' c' w', OwnG w' base e size A' (n + m) c' (xs ++ news) → Below base w0 w' → w.grownBy w' (Value.slice A n c).ownBlock → base ≤ w'.heap.size → wpListIn F n₀ P ops Q rest (a.put o.dst (.slice A' (n + m) c')) w') : wpListIn F n₀ P ops Q (o :: rest) a w := by
  refine wpListIn_plain hgd fun K hK' => ?_
  obtain ⟨v', w', hrun, hrow, hg, _⟩ := run_append_own_wide (P := P) w base t o.type e i z size bytes ht hi hz hsize hby hzs hsz (.slice A n c) n xs hown.row ad m c2 news hl hnews h1 (by simp only [maxLen]; omega) (by
      have : ((n + m) + (n + m) / 4 + 192) * bytes ≤ ((n + m) + (n + m) / 4 + 192) * 64 := Nat.mul_le_mul_left _ hbs
      omega) hbase
  have hv : ∃ A' c', v' = .slice A' (n + m) c' := by
    rcases hrow.2 with ⟨hv, h0⟩ | ⟨g, cap, cur, hv, _⟩
    · exact ⟨none, 0, by rw [hv, h0]⟩
    · exact ⟨_, cap, hv⟩
  obtain ⟨A', c', rfl⟩ := hv
  unfold Oper.wpIn
  refine ⟨?_, ?_⟩
  · simp [Oper.about, ho, resolve, Target.leads, Sem.run_pure]
  · rw [Oper.semAt_plain F _ _ (by rw [ho]; intro c hc'; cases hc')]
    simp [execOp, ho, resolve, invoke, builtin, hs, hx, hrun, Result.andThen]
    exact hK' _ _ (h A' c' w' ⟨hrow⟩ (HB.grown hg hbase hown.base_le) hg (Nat.le_trans hbase hg.size))
theorem range_law2 {α β : Type} {F : Fence} {n : Nat} {P : Program} {g : Operand} {ps : Array Tmp} {assign body : Code} {Q : Exit → Act → World → Prop} {a : Act} {w : World}
    (hro : F.round = none) (h1 : 1 ≤ n) {gf : Nat} {lb : Array Value} (hg : a.eval g = .func (.func gf) #[] lb) (hFg : F.fn gf) (eg : ∀ args w, (callFunc gf args).run P w = .ok (.enter gf args) w)
    (encs : α → Array Value) (hps : ∀ x, (encs x).size = ps.size) (step : β → α → β) (s0 : β) (S : β → Prop)
    (I : β → World → Prop) (Ix : Code → β → World → Prop) (ok : β → α → Prop) (J : β → α → Act → World → Prop)
    (hI : ∀ s W o, o.isCells = false → I s W → I s (W.putObj (w.heap.size + 1) o)) (hIx : ∀ c s W o, o.isCells = false → Ix c s W → Ix c s (W.putObj (w.heap.size + 1) o)) (hJ : ∀ s x a W o, o.isCells = false → J s x a W → J s x a (W.putObj (w.heap.size + 1) o))
    (h0 : ∀ o o', o.isCells = false → o'.isCells = false → I s0 ((w.alloc o).alloc o'))
    (hassign : ∀ (s : β) (x : α) (W : World) (K : Act → World → Prop), ok s x → I s W → w.heap.size + 2 ≤ W.heap.size → (∀ b W', KeepsFrom w.heap.size W W' → J s x b W' → K b W') →
      assign.wpIn (F.inRound (w.heap.size + 1)) (n - 1 - 1) P (Exit.then K (fun _ _ _ => False)) { tmps := (ps.zip (encs x)).foldl (fun t (p, v) => t.setIfInBounds p v) a.tmps, defers := [] } W)
    (hbody : ∀ (s : β) (x : α) (b : Act) (W : World), ok s x → J s x b W → w.heap.size + 2 ≤ W.heap.size → body.wpIn (F.inRound (w.heap.size + 1)) (n - 1 - 1) P (roundEnd w.heap.size I Ix (step s x) W) b W)
    (hiter : ∀ (R : World → Prop) (Rx : Code → World → Prop) (W1 : World), (∀ W W', R W → KeepsFrom w.heap.size W W' → R W') → (∀ W, R W → w.heap.size + 2 ≤ W.heap.size) →
      (∀ s x W, ok s x → I s W → R W → YieldAt F (n - 1 - 1) P (w.heap.size + 1) (encs x) W (roundSaid (step s x) I Ix R Rx)) →
      I s0 W1 → R W1 → w.heap.size + 2 = W1.heap.size → CallsIn F (n - 1) P gf (#[.func (.yield (w.heap.size + 1)) #[] #[]] ++ lb) W1 (iterEnd S I Ix R Rx))
    (hdone : ∀ (s : β) (W : World), S s → I s W → W.heap[w.heap.size]? = some (.deferred (some [])) → Q .normal { a with defers := { target := .collected w.heap.size, args := #[] } :: a.defers } W)
    (hstop : ∀ (c : Code) (s : β) (W : World), Ix c s W → W.heap[w.heap.size]? = some (.deferred (some [])) → c.wpIn F n P Q { a with defers := { target := .collected w.heap.size, args := #[] } :: a.defers } W) :
    (Code.rangeFunc g ps assign body).wpIn F n P Q a w := by
  refine wpIn_rangeFunc fun fn hfn => ?_
  rw [hro]
  obtain ⟨D, hD⟩ : ∃ D, w.heap.size = D := ⟨_, rfl⟩
  obtain ⟨r, hr⟩ : ∃ r : Loop, ({ state := .ready, pending := none, fn, tmps := a.tmps, params := ps, assign, body, defers := D } : Loop) = r := ⟨_, rfl⟩
  have hrun := run_enterLoop_outer (P := P) (w := w) fn a.tmps ps assign body
  rw [hD] at hrun hI hIx hJ hbody hiter hdone hstop hassign
  rw [hr] at hrun
  have hready : ({ r with state := if (none : Option Code).isNone then .ready else .done, pending := none } : Loop) = r := by rw [← hr]; rfl
  obtain ⟨W1, hW1⟩ : ∃ W1, (w.alloc (.deferred (some []))).alloc (.loop r) = W1 := ⟨_, rfl⟩
  have hsz : D + 2 = W1.heap.size := by rw [← hW1, ← hD]; simp
  have hL1 : Loops D r none W1 := by
    refine ⟨?_, ?_⟩
    · rw [hready, ← hW1]
      have := World.alloc_heap_new (w.alloc (.deferred (some []))) (.loop r)
      rwa [World.size_alloc, hD] at this
    · rw [← hW1, ← hD]
      exact (Below.heap_alloc _ _ _ (by simp)).trans (World.alloc_heap_new w _)
  rw [hW1] at hrun
  refine ⟨D + 1, _, W1, { target := .fn (.func gf) lb, args := #[.func (.yield (D + 1)) #[] #[]] }, W1, gf, #[.func (.yield (D + 1)) #[] #[]] ++ lb, W1, hrun, ?_, ?_, ?_, fun _ => h1, ?_⟩
  · simp only [resolve, hg]
    simp [go_sem]
  · intro f' hf'
    simp [Target.leads] at hf'
    subst hf'
    exact hFg
  · simp [invoke, go_sem, eg]
  refine (hiter (Loops D r none) (fun c W => Loops D r (some c) W) W1 (fun W W' h hk => h.keep hk) (fun W h => (Array.getElem?_eq_some_iff.1 h.loop).1) ?_ (by rw [← hW1]; exact h0 _ _ rfl rfl) hL1 hsz).mono ?_
  · intro s x W hok hi hl
    have hl0 := hl.loop
    rw [hready] at hl0
    have hlt : D + 1 < W.heap.size := (Array.getElem?_eq_some_iff.1 hl0).1
    have hpar : r.params = ps := by rw [← hr]
    have hy := run_yield (P := P) (args := encs x) hl0 (by rw [hpar]; exact hps x)
    refine ⟨r.fn, _, r.assign, r.body, hy, ?_⟩
    have e1 : r.fn = fn := by rw [← hr]
    have e2 : r.assign = assign := by rw [← hr]
    have e3 : r.body = body := by rw [← hr]
    have e4 : r.tmps = a.tmps := by rw [← hr]
    rw [e1, e2, e3, hpar, e4]
    refine roundIn_of_wpIn hfn (hassign s x W _ hok hi hlt ?_)
    intro b Wa hka hja
    have hla := hl.keep hka
    have hl0a := hla.loop
    rw [hready] at hl0a
    have hlta : D + 1 < Wa.heap.size := (Array.getElem?_eq_some_iff.1 hl0a).1
    obtain ⟨W2, hW2⟩ : ∃ W2, Wa.putObj (D + 1) (.loop { r with state := .busy }) = W2 := ⟨_, rfl⟩
    have hb2 : W2.heap[D + 1]? = some (.loop { r with state := .busy }) := by rw [← hW2]; exact World.putObj_heap_same hlta
    have hd2 : W2.heap[D]? = some (.deferred (some [])) := by rw [← hW2]; exact (World.putObj_heap_other (by omega)).trans hla.defers
    have hs2 : D + 2 ≤ W2.heap.size := (Array.getElem?_eq_some_iff.1 hb2).1
    have hj2 : J s x b W2 := by rw [← hW2]; exact hJ _ _ _ _ _ rfl hja
    have hend : ∀ (j : Option Code) (W3 : World), KeepsFrom D W2 W3 → (Instr.endRound (D + 1) j).run P W3 = .ok (.bool j.isNone) (W3.putObj (D + 1) (.loop { r with state := if j.isNone then .ready else .done, pending := j })) ∧ Loops D r j (W3.putObj (D + 1) (.loop { r with state := if j.isNone then .ready else .done, pending := j })) := by
      intro j W3 hk
      have hb3 := hk.same _ _ (by omega) hb2 rfl
      have hd3 := hk.same _ _ (Nat.le_refl _) hd2 rfl
      have he := run_endRound (P := P) j hb3
      exact ⟨he, World.putObj_heap_same (Array.getElem?_eq_some_iff.1 hb3).1, (World.putObj_heap_other (by omega)).trans hd3⟩
    refine ⟨W2, by rw [← hW2]; exact run_beginRound hl0a (by rw [← hr]), ?_⟩
    refine wpIn_mono (hbody s x b W2 hok hj2 hs2) ?_
    intro e a3 W3 hp
    cases e with
    | normal =>
      obtain ⟨hk, hi3⟩ := hp
      obtain ⟨hr3, hl3⟩ := hend none W3 hk
      exact ⟨_, _, hr3, .inl ⟨rfl, hI _ _ _ rfl hi3, hl3⟩⟩
    | ret =>
      obtain ⟨hk, hi3⟩ := hp
      obtain ⟨hr3, hl3⟩ := hend (some .ret) W3 hk
      exact ⟨_, _, hr3, .inr ⟨rfl, .ret, hIx _ _ _ _ rfl hi3, hl3⟩⟩
    | exit id =>
      obtain ⟨hk, hi3⟩ := hp
      obtain ⟨hr3, hl3⟩ := hend (some (.exit id)) W3 hk
      exact ⟨_, _, hr3, .inr ⟨rfl, .exit id, hIx _ _ _ _ rfl hi3, hl3⟩⟩
    | goto t =>
      obtain ⟨hk, hi3⟩ := hp
      obtain ⟨hr3, hl3⟩ := hend (some (.goto t)) W3 hk
      exact ⟨_, _, hr3, .inr ⟨rfl, .goto t, hIx _ _ _ _ rfl hi3, hl3⟩⟩
    | panic ch => exact hp.elim
    | outgrown => exact hp.elim
  · rintro e W2 ⟨⟨v, rfl⟩, ⟨s, hS, hi, hl⟩ | ⟨c, s, hi, hl⟩⟩
    · have h2 := run_endLoop (P := P) hl.loop (by simp)
      exact ⟨none, _, h2, hdone s _ hS (hI _ _ _ rfl hi) ((World.putObj_heap_other (by omega)).trans hl.defers)⟩
    · have h2 := run_endLoop (P := P) hl.loop (by simp)
      exact ⟨some c, _, h2, hstop c s _ (hIx _ _ _ _ rfl hi) ((World.putObj_heap_other (by omega)).trans hl.defers)⟩
set_option maxHeartbeats 1000000
def NotOf (e : TypeId) (W : World) (j : Nat) : Prop := ∀ o, W.heap[j]? = some o → ∀ cur f, o ≠ .cells cur e f
theorem Own.apart {w w' : World} {base : Nat} {e : TypeId} {A : Option Addr} {n c : Nat} {l : List UInt8} {row : Option Nat} (h : Own w base e A n c l) (hg : w.grownBy w' row) (hr : ∀ j, row = some j → NotOf e w j) : Own w' base e A n c l :=
  h.kept hg (by
    rcases h.row.2 with ⟨hv, _⟩ | ⟨g, cap, cur, hv, _, hg2, _⟩
    · rw [hv]; exact .inl rfl
    · injection hv with h1 h2 h3
      subst h1 h3
      refine .inr fun he => ?_
      simp only [Value.ownBlock] at he
      exact hr g he.symm _ hg2 _ _ rfl)
theorem OwnG.apart {w w' : World} {base : Nat} {e : TypeId} {s : Nat} {A : Option Addr} {n c : Nat} {xs : List Value} {row : Option Nat} (h : OwnG w base e s A n c xs) (hg : w.grownBy w' row) (hr : ∀ j, row = some j → NotOf e w j) : OwnG w' base e s A n c xs :=
  h.kept hg (by
    rcases h.row.2 with ⟨hv, _⟩ | ⟨g, cap, cur, hv, _, hg2, _⟩
    · rw [hv]; exact .inl rfl
    · injection hv with h1 h2 h3
      subst h1 h3
      refine .inr fun he => ?_
      simp only [Value.ownBlock] at he
      exact hr g he.symm _ hg2 _ _ rfl)
theorem OsO.apart {w w' : World} {base : Nat} {A : Option Addr} {n c : Nat} {os : List Opt} {row : Option Nat} (h : OsO w base A n c os) (hg : w.grownBy w' row) (hr : ∀ j, row = some j → NotOf 5 w j ∧ NotOf 66 w j) : OsO w' base A n c os := by
  obtain ⟨xs, hx, hj⟩ := h.own
  refine ⟨h.len, xs, hx.apart hg (fun j e => (hr j e).2), fun j hjn => ?_⟩
  obtain ⟨h1, B, m, d, h2, h3⟩ := hj j hjn
  exact ⟨h1, B, m, d, h2, h3.apart hg (fun j e => (hr j e).1)⟩
theorem Blk.notOf {w : World} {k : Nat} {cs : Array Value} {t : TypeId} (h : Blk w k cs t) {e : TypeId} (he : t ≠ e) : NotOf e w k := by
  intro o ho cur f e2
  rw [h.rd] at ho
  subst e2
  simp only [Option.some.injEq, Obj.cells.injEq] at ho
  exact he ho.2.1
theorem Blk.kept {w w' : World} {k : Nat} {cs : Array Value} {t : TypeId} {row : Option Nat} (h : Blk w k cs t) (hg : w.grownBy w' row) (hr : row ≠ some k) : Blk w' k cs t :=
  ⟨(hg.block k h.lt (Ne.symm hr)).trans h.rd⟩
theorem OwnG.ne_blk {w : World} {base : Nat} {e : TypeId} {s : Nat} {A : Option Addr} {n c : Nat} {xs : List Value} (h : OwnG w base e s A n c xs) {k : Nat} {cs : Array Value} {t : TypeId} (b : Blk w k cs t) (he : t ≠ e) : (Value.slice A n c).ownBlock ≠ some k := by
  rcases h.row.2 with ⟨hv, _⟩ | ⟨g, cap, cur, hv, _, hg, _⟩
  · rw [hv]; simp [Value.ownBlock]
  · injection hv with h1 h2 h3
    subst h1 h3
    simp only [Value.ownBlock, ne_eq, Option.some.injEq]
    intro e2
    subst e2
    exact b.notOf he _ hg _ _ rfl
theorem OwnG.cells {w : World} {base : Nat} {e : TypeId} {s : Nat} {A : Option Addr} {n c : Nat} {xs : List Value} (h : OwnG w base e s A n c xs) : ∀ (j : Nat) (o : Obj), (Value.slice A n c).ownBlock = some j → w.heap[j]? = some o → o.isCells = true := by
  intro j o hj ho
  rcases h.row.2 with ⟨hv, _⟩ | ⟨g, cap, cur, hv, _, hg, _⟩
  · rw [hv] at hj; simp [Value.ownBlock] at hj
  · injection hv with h1 h2 h3
    subst h1 h3
    simp only [Value.ownBlock, Option.some.injEq] at hj
    subst hj
    rw [hg] at ho
    simp only [Option.some.injEq] at ho
    subst ho
    rfl
def NoCells (W : World) (j : Nat) : Prop := ∃ o, W.heap[j]? = some o ∧ o.isCells = false
theorem NoCells.notOf {W : World} {j : Nat} (h : NoCells W j) (e : TypeId) : NotOf e W j := by
  obtain ⟨o, ho, hc⟩ := h
  intro o' ho' cur f e2
  rw [ho] at ho'
  simp only [Option.some.injEq] at ho'
  subst ho' e2
  simp [Obj.isCells] at hc
theorem NoCells.lt {W : World} {j : Nat} (h : NoCells W j) : j < W.heap.size := by
  obtain ⟨o, ho, _⟩ := h
  exact (Array.getElem?_eq_some_iff.1 ho).1
theorem NoCells.below {W W' : World} {j : Nat} (h : NoCells W j) (hb : Below W.heap.size W W') : NoCells W' j := by
  have hl := h.lt
  obtain ⟨o, ho, hc⟩ := h
  exact ⟨o, (hb.block j hl).trans ho, hc⟩
theorem NoCells.set {W : World} {j : Nat} (h : NoCells W j) (p : Addr) (v : Value) : NoCells (W.setCell p v) j := by
  obtain ⟨o, ho, hc⟩ := h
  refine ⟨o, ?_, hc⟩
  simp only [World.setCell, Array.getElem?_modify, ho, Option.map_some]
  split
  · cases o <;> simp_all [Obj.isCells]
  · rfl
theorem NoCells.put {W : World} {j : Nat} (h : NoCells W j) (l : Nat) (o' : Obj) (ho' : o'.isCells = false) : NoCells (W.putObj l o') j := by
  have hl := h.lt
  by_cases e : j = l
  · subst e
    exact ⟨o', World.putObj_heap_same hl, ho'⟩
  · obtain ⟨o, ho, hc⟩ := h
    exact ⟨o, (World.putObj_heap_other e).trans ho, hc⟩
theorem NoCells.kept {W W' : World} {j : Nat} {row : Option Nat} (h : NoCells W j) (hg : W.grownBy W' row) (hr : ∀ (j : Nat) (o : Obj), row = some j → W.heap[j]? = some o → o.isCells = true) : NoCells W' j := by
  have hl := h.lt
  obtain ⟨o, ho, hc⟩ := h
  refine ⟨o, (hg.block j hl (fun e => ?_)).trans ho, hc⟩
  rw [hr j o e.symm ho] at hc
  cases hc
theorem Blk.put {W : World} {k : Nat} {cs : Array Value} {t : TypeId} (h : Blk W k cs t) {l : Nat} (hn : NoCells W l) (o' : Obj) : Blk (W.putObj l o') k cs t := by
  refine ⟨(World.putObj_heap_other fun e => ?_).trans h.rd⟩
  subst e
  obtain ⟨o, ho, hc⟩ := hn
  rw [h.rd] at ho
  simp only [Option.some.injEq] at ho
  subst ho
  simp [Obj.isCells] at hc
theorem new2 (w : World) (x y : Value) (t : TypeId) : ∀ (q : Nat) u, [x, y][q]? = some u → (w.alloc (.cells #[x, y] t)).cell? ((⟨w.heap.size, 0, none⟩ : Addr).add q) = some u := by
  intro q u h
  have h1 := (blk_new w #[x, y] t _ rfl).cell.1 q
  have h2 : (⟨w.heap.size, 0, none⟩ : Addr).add q = ⟨w.heap.size, q, none⟩ := by cases q <;> simp [Addr.add]
  rw [h2, h1]
  simpa using h
theorem info_opt : (Try.prog.info? 66).map (fun i => (i.zero, i.size, i.bytes)) = some (some (.agg #[.int .u8 0, .slice none 0 0]), 2, 32) := by kernel_rfl
attribute [local go_sem] Oper.semAt_some jump_normal jump_exit jump_ret jump_panic jump_goto
set_option linter.unusedVariables false
set_option linter.unusedSimpArgs false
set_option linter.unusedSimpArgs false
set_option maxHeartbeats 8000000
set_option maxRecDepth 100000
theorem store0123 {W : World} {r : Nat} {c0 c1 c2 c3 c4 c5 c6 c7 c8 : Value} {t : TypeId} (R : Blk W r #[c0, c1, c2, c3, c4, c5, c6, c7, c8] t) (v0 v1 v2 v3 : Value) :
    ∃ wf, ((((W.setCell ⟨r, 0, none⟩ v0).setCell ⟨r, 1, none⟩ v1).setCell ⟨r, 2, none⟩ v2).setCell ⟨r, 3, none⟩ v3) = wf ∧ Sto W r wf #[v0, v1, v2, v3, c4, c5, c6, c7, c8] t := by
  have h := ((((Sto.nil R).set 0 v0).set 1 v1).set 2 v2).set 3 v3
  simp only [List.setIfInBounds_toArray, List.set_cons_zero, List.set_cons_succ] at h
  exact ⟨_, rfl, h⟩
theorem store4568 {W : World} {r : Nat} {c0 c1 c2 c3 c4 c5 c6 c7 c8 : Value} {t : TypeId} (R : Blk W r #[c0, c1, c2, c3, c4, c5, c6, c7, c8] t) (v4 v5 v6 v8 : Value) :
    ∃ wf, ((((W.setCell ⟨r, 4, none⟩ v4).setCell ⟨r, 5, none⟩ v5).setCell ⟨r, 6, none⟩ v6).setCell ⟨r, 8, none⟩ v8) = wf ∧ Sto W r wf #[c0, c1, c2, c3, v4, v5, v6, c7, v8] t := by
  have h := ((((Sto.nil R).set 4 v4).set 5 v5).set 6 v6).set 8 v8
  simp only [List.setIfInBounds_toArray, List.set_cons_zero, List.set_cons_succ] at h
  exact ⟨_, rfl, h⟩
theorem optsK_len : ∀ (k : Nat) (l : List UInt8) (os : List Opt), optsK k l = some os → os.length ≤ l.length
  | 0, l, os, h => by cases h
  | k + 1, l, os, h => by
    unfold optsK at h
    cases hx : nx l with
    | none => rw [hx] at h; cases h
    | some x =>
      cases x with
      | none =>
        rw [hx] at h
        simp only [Option.some.injEq] at h
        subst h
        simp
      | some y =>
        obtain ⟨o, n⟩ := y
        rw [hx] at h
        simp only [Option.map_eq_some_iff] at h
        obtain ⟨r, hr, rfl⟩ := h
        have := optsK_len k _ r hr
        have := nx_some hx
        simp only [List.length_drop, List.length_cons] at *
        omega
theorem optsP_len {l : List UInt8} {os : List Opt} (h : optsP l = some os) : os.length ≤ l.length := optsK_len _ l os h
theorem split_any (A : Option Addr) (n c : Nat) (w : World) :
    Calls Try.prog 37 #[.slice A n c] w fun e w' => e = .returned (.func (.func 69) #[] #[.pointer (some ⟨w.heap.size, 0, none⟩)]) ∧ w' = w.alloc (.cells #[.slice A n c] 24) := by
  have hmf : ∀ (fn : Fn) (first cap : Array Value) (w : World), (Instr.makeFunc fn first cap).run Try.prog w = .ok (.func fn first cap) w := fun _ _ _ _ => rfl
  go_enter Try.func37, Try.ntmps37
  go_wp2
  go_ret
  exact ⟨rfl, rfl⟩
structure SO (W : World) (base r : Nat) (t : TypeId) (A : Option Addr) (n c : Nat) (os : List Opt) : Prop where
  o : OsO W base A n c os
  b : ∃ cs, Blk W r cs t
theorem SO.set {W : World} {base r : Nat} {t : TypeId} {A : Option Addr} {n c : Nat} {os : List Opt} (h : SO W base r t A n c os) (h1 : t ≠ 5) (h2 : t ≠ 66) (j : Nat) (v : Value) : SO (W.setCell ⟨r, j, none⟩ v) base r t A n c os := by
  obtain ⟨h3, cs, h4⟩ := h
  exact ⟨h3.apart (grownBy_setCell _ _ _) (fun j e => by cases e; exact ⟨h4.notOf h1, h4.notOf h2⟩), _, h4.set_ j v⟩
theorem SO.below {W W' : World} {base r : Nat} {t : TypeId} {A : Option Addr} {n c : Nat} {os : List Opt} (h : SO W base r t A n c os) (hb : Below W.heap.size W W') : SO W' base r t A n c os := by
  obtain ⟨h3, cs, h4⟩ := h
  exact ⟨h3.below hb, cs, h4.below hb⟩
structure TcC (w : World) (k kB D : Nat) (os : List Opt) (W : World) : Prop where
  s : ∃ OA oc, Blk W (k + 1) #[.int .u16 0, .int .u16 0, .int .u32 0, .int .u32 0, .int .u8 0, .int .u16 0, .int .u16 0, .slice OA os.length oc, .slice none 0 0] 29 ∧ OsO W w.heap.size OA os.length oc os
  e : Blk W (k + 1 + 1) #[.int .i64 3] 30
  b : ∃ v, Blk W kB #[v] 24
  d : NoCells W (D + 1)
theorem TcC.below {w : World} {k kB D : Nat} {os : List Opt} {W W' : World} (h : TcC w k kB D os W) (hb : Below W.heap.size W W') : TcC w k kB D os W' := by
  obtain ⟨⟨OA, oc, h1, h2⟩, h3, ⟨v, h4⟩, h5⟩ := h
  exact ⟨⟨OA, oc, h1.below hb, h2.below hb⟩, h3.below hb, ⟨v, h4.below hb⟩, h5.below hb⟩
theorem TcC.setB {w : World} {k kB D : Nat} {os : List Opt} {W : World} (h : TcC w k kB D os W) (h1 : kB ≠ k + 1) (h2 : kB ≠ k + 1 + 1) (u : Value) : TcC w k kB D os (W.setCell ⟨kB, 0, none⟩ u) := by
  have hT : 24 ≠ 5 ∧ 24 ≠ 66 := by decide
  obtain ⟨⟨OA, oc, k1, k2⟩, k3, ⟨v, k4⟩, k5⟩ := h
  exact ⟨⟨OA, oc, k1.far _ h1 _, k2.apart (grownBy_setCell _ _ _) (fun j e => by cases e; exact ⟨k4.notOf hT.1, k4.notOf hT.2⟩)⟩, k3.far _ h2 _, ⟨_, k4.set_ 0 u⟩, k5.set _ _⟩
theorem TcC.put {w : World} {k kB D : Nat} {os : List Opt} {W : World} (h : TcC w k kB D os W) (o : Obj) (ho : o.isCells = false) : TcC w k kB D os (W.putObj (D + 1) o) := by
  obtain ⟨⟨OA, oc, k1, k2⟩, k3, ⟨v, k4⟩, k5⟩ := h
  exact ⟨⟨OA, oc, k1.put k5 o, k2.apart (grownBy_putObj' _ _ _) (fun j e => by cases e; exact ⟨k5.notOf _, k5.notOf _⟩)⟩, k3.put k5 o, ⟨v, k4.put k5 o⟩, k5.put _ _ ho⟩
structure TcIx (w : World) (k : Nat) (l : List UInt8) (c : Code) (s : SpS) (W : World) : Prop where
  c : c = .goto 0
  bad : s.bad = true
  no : optsP l = none
  s : ∃ c0 c1 c2 c3 c4 c5 c6 c7 c8, Blk W (k + 1) #[c0, c1, c2, c3, c4, c5, c6, c7, c8] 29
  e : Blk W (k + 1 + 1) #[.int .i64 4] 30
  bel : Below w.heap.size w W
structure TcR (w : World) (k kB D : Nat) (s : SpS) (x : SpX) (b : Act) (W : World) : Prop where
  size : b.tmps.size = 87
  t2 : b.tmps[2]? = some (.pointer (some ⟨k + 1, 0, none⟩))
  t3 : b.tmps[3]? = some (.pointer (some ⟨k + 1 + 1, 0, none⟩))
  q : ∃ q, b.tmps[6]? = some (.pointer (some ⟨q, 0, none⟩)) ∧ Blk W q #[.int .u8 x.o.kind, .slice x.A x.n x.c] 66 ∧ q ≠ k + 1 ∧ q ≠ k + 1 + 1
  t7 : b.tmps[7]? = some (.bool x.ok)
  de : b.defers = []
  i : SplI w kB (TcC w k kB D) s W
theorem splI_put {w : World} {k kB D : Nat} {s : SpS} {W : World} (h : SplI w kB (TcC w k kB D) s W) (o : Obj) (ho : o.isCells = false) (hD : w.heap.size ≤ D + 1) (hB : kB ≠ D + 1) : SplI w kB (TcC w k kB D) s (W.putObj (D + 1) o) := by
  obtain ⟨h1, h2, h3, h4, h5, h6⟩ := h
  exact ⟨h1.put o ho, by rw [cell_putObj (by simpa using hB)]; exact h2, by rw [frozen_putObj (by simpa using hB)]; exact h3, below_putObj h4 hD _, h5, fun x hx hok => (h6 x hx hok).apart (grownBy_putObj' _ _ _) (fun j e => by cases e; exact h1.d.notOf _)⟩
theorem tcp_go (p : Pkt) (hp : p.Ok) (A1 : Option Addr) (n1 c1 : Nat) (A2 : Option Addr) (n2 c2 : Nat) (w : World) (k2 : Bs w A2 n2 c2 p.dat) (x q : Int) (hd : Nat) (hx : bt p.dat 12 = x) (hq : x / 16 = q) (hh : q * 4 = (hd : Int))
    (h1 : (p.proto != 6) = false) (h2 : 20 ≤ (n2 : Int)) (h3 : 20 ≤ (hd : Int)) (h4 : (x % 16 != 0) = false) (h5 : (hd : Int) ≤ (n2 : Int)) (h6 : (psum p 6 p.dat == 0) = true) (h7 : n2 ≤ 140737488400000)
    (T : Ending → World → Prop) (HN : Hid (optsP ((p.dat.take hd).drop 20) = none → ∀ e w', TcPost w zS 4 e w' → T e w'))
    (HY : Hid (∀ os, optsP ((p.dat.take hd).drop 20) = some os → ∀ e w', TcPost w ⟨get16 p.dat 0, get16 p.dat 2, get32 p.dat 4, get32 p.dat 8, bt p.dat 13, get16 p.dat 14, get16 p.dat 18, os, p.dat.drop hd⟩ 0 e w' → T e w')) :
    Calls Try.prog 14 #[(.agg #[.int .u8 (p).tos, .int .u16 (p).id, .bool (p).keep, .int .u8 (p).ttl, .int .u8 (p).proto, .int .u32 (p).src, .int .u32 (p).dst, .slice A1 n1 c1, .slice A2 n2 c2])] w T := by
  obtain ⟨i8, hi8, -, hs8, -⟩ := info_parts info_u8
  have b2 := k2.max
  have hcap := k2.cap
  obtain ⟨k, hk, w1, hw1, P1, S1, E1, R1⟩ := nwI3 w #[.int .u8 (p).tos, .int .u16 (p).id, .bool (p).keep, .int .u8 (p).ttl, .int .u8 (p).proto, .int .u32 (p).src, .int .u32 (p).dst, .slice A1 n1 c1, .slice A2 n2 c2] 26 #[.int .u16 0, .int .u16 0, .int .u32 0, .int .u32 0, .int .u8 0, .int .u16 0, .int .u16 0, .slice none 0 0, .slice none 0 0] 29 #[.int .i64 0] 30
  have Pc1 := P1.cell
  have Sc1 := S1.cell
  have Ec1 := E1.cell
  have Pl1 := P1.lt
  have Sl1 := S1.lt
  have El1 := E1.lt
  have x1 := (k2).below R1
  obtain ⟨b, off, rfl, hcs⟩ := x1.rd (by omega)
  have g12 := hcs 12 (by omega)
  have i12 : (12 : Int) < n2 := by omega
  have x0 := bt_lo p.dat 12
  have x255 := bt_hi p.dat 12
  rw [hx] at g12 x0 x255
  have hw1' : IntKind.i64.wrap q = q := by rw [IntKind.wrap_i64]; omega
  have hw2' : IntKind.i64.wrap (hd : Int) = hd := by rw [IntKind.wrap_i64]; omega
  have hand := and_u8_15 x0 x255
  clear hcs
  have hcut : ∀ W, (Instr.slice 24 (.slice (some ⟨b, off, none⟩) n2 c2) (some (.int .i64 20)) (some (.int .i64 (hd : Int))) none).run Try.prog W = _ := fun W => cut_lh Try.underlying24 hi8 hs8 (some ⟨b, off, none⟩) n2 c2 .i64 .i64 20 (hd : Int) (by omega) (by omega) (by omega) W
  obtain ⟨A', n', c', eA, en, ec, hbO⟩ := k2.cutE (lo := 20) (hi := hd) (by omega) (by omega)
  simp only [show (20 : Int).toNat = 20 from rfl, Int.toNat_natCast, eA, en, ec] at hcut
  have hn' : n' ≤ 40 := by omega
  obtain ⟨l, hl⟩ : ∃ l, (p.dat.take hd).drop 20 = l := ⟨_, rfl⟩
  rw [hl] at hbO HN HY
  clear eA en ec hl
  obtain ⟨v0, hv0⟩ : ∃ v, get16 p.dat 0 = v := ⟨_, rfl⟩
  have g0 : ∀ W, Bs W (some ⟨b, off, none⟩) n2 c2 p.dat → Calls Try.prog 38 #[.slice (some ⟨b, off, none⟩) n2 c2, .int .i64 0] W fun e w' => e = .returned (.int .u16 v0) ∧ Drawn W w' := fun W k => by have := get16_any (some ⟨b, off, none⟩) n2 c2 p.dat 0 W k; rw [hv0] at this; exact this
  rw [hv0] at HY
  clear hv0
  obtain ⟨v2, hv2⟩ : ∃ v, get16 p.dat 2 = v := ⟨_, rfl⟩
  have g2 : ∀ W, Bs W (some ⟨b, off, none⟩) n2 c2 p.dat → Calls Try.prog 38 #[.slice (some ⟨b, off, none⟩) n2 c2, .int .i64 2] W fun e w' => e = .returned (.int .u16 v2) ∧ Drawn W w' := fun W k => by have := get16_any (some ⟨b, off, none⟩) n2 c2 p.dat 2 W k; rw [hv2] at this; exact this
  rw [hv2] at HY
  clear hv2
  obtain ⟨v4, hv4⟩ : ∃ v, get32 p.dat 4 = v := ⟨_, rfl⟩
  have g4 : ∀ W, Bs W (some ⟨b, off, none⟩) n2 c2 p.dat → Calls Try.prog 39 #[.slice (some ⟨b, off, none⟩) n2 c2, .int .i64 4] W fun e w' => e = .returned (.int .u32 v4) ∧ Drawn W w' := fun W k => by have := get32_any (some ⟨b, off, none⟩) n2 c2 p.dat 4 W k; rw [hv4] at this; exact this
  rw [hv4] at HY
  clear hv4
  obtain ⟨v8, hv8⟩ : ∃ v, get32 p.dat 8 = v := ⟨_, rfl⟩
  have g8 : ∀ W, Bs W (some ⟨b, off, none⟩) n2 c2 p.dat → Calls Try.prog 39 #[.slice (some ⟨b, off, none⟩) n2 c2, .int .i64 8] W fun e w' => e = .returned (.int .u32 v8) ∧ Drawn W w' := fun W k => by have := get32_any (some ⟨b, off, none⟩) n2 c2 p.dat 8 W k; rw [hv8] at this; exact this
  rw [hv8] at HY
  clear hv8
  obtain ⟨v14, hv14⟩ : ∃ v, get16 p.dat 14 = v := ⟨_, rfl⟩
  have g14 : ∀ W, Bs W (some ⟨b, off, none⟩) n2 c2 p.dat → Calls Try.prog 38 #[.slice (some ⟨b, off, none⟩) n2 c2, .int .i64 14] W fun e w' => e = .returned (.int .u16 v14) ∧ Drawn W w' := fun W k => by have := get16_any (some ⟨b, off, none⟩) n2 c2 p.dat 14 W k; rw [hv14] at this; exact this
  rw [hv14] at HY
  clear hv14
  obtain ⟨v18, hv18⟩ : ∃ v, get16 p.dat 18 = v := ⟨_, rfl⟩
  have g18 : ∀ W, Bs W (some ⟨b, off, none⟩) n2 c2 p.dat → Calls Try.prog 38 #[.slice (some ⟨b, off, none⟩) n2 c2, .int .i64 18] W fun e w' => e = .returned (.int .u16 v18) ∧ Drawn W w' := fun W k => by have := get16_any (some ⟨b, off, none⟩) n2 c2 p.dat 18 W k; rw [hv18] at this; exact this
  rw [hv18] at HY
  clear hv18
  obtain ⟨v13, hv13⟩ : ∃ v, bt p.dat 13 = v := ⟨_, rfl⟩
  have g13 := fun W (k : Bs W (some ⟨b, off, none⟩) n2 c2 p.dat) => k.at_ (j := 13) (by omega)
  rw [hv13] at g13 HY
  clear hv13
  have hcutD : ∀ W, (Instr.slice 24 (.slice (some ⟨b, off, none⟩) n2 c2) (some (.int .i64 (hd : Int))) none none).run Try.prog W = _ := fun W => cut_l Try.underlying24 hi8 hs8 (some ⟨b, off, none⟩) n2 c2 .i64 (hd : Int) (by omega) (by omega) W
  obtain ⟨AD, nD, cD, eA, en, ec, hbD⟩ := k2.cutE (lo := hd) (hi := n2) (by omega) (Nat.le_refl _)
  simp only [Int.toNat_natCast, eA, en, ec] at hcutD
  rw [List.take_of_length_le (by rw [k2.len]; exact Nat.le_refl _)] at hbD
  clear eA en ec
  refine (callsIn_wide (n := 3)).1 ?_
  refine callsIn_of_wp_marks Try.func14 rfl trivial ?_ rfl
  simp only [Try.ntmps14, List.size_toArray, List.length_cons, List.length_nil, Nat.reduceAdd, Nat.reduceSub, Array.replicate_succ, Array.replicate_zero, List.push_toArray, List.append_toArray, List.nil_append, List.cons_append]
  gi_wp2
  refine wpIn_scope_fwd 0 (fun a W => TcJ w k 4 a W ∧ optsP l = none) rfl ?first ?pass
  case pass =>
    rintro a W ⟨⟨hs, h2, h3, ⟨d0, d1, d2, d3, d4, d5, d6, d7, d8, S⟩, Eb, hB, hde⟩, hno⟩
    have HNO := Lib.hid hno
    clear hno
    obtain ⟨f, hf, hfv⟩ := slots hs
    have f2 := hfv 2 _ (by omega) h2
    have f3 := hfv 3 _ (by omega) h3
    obtain ⟨tm, df⟩ := a
    simp only at hf hde
    subst hf
    have sc := S.cell
    have ec := Eb.cell
    simp only [List.range, List.range.loop, List.map_cons, List.map_nil, f2, f3]
    have sl := S.lt
    have el := Eb.lt
    gi_wp2_with gi_region
    obtain ⟨wf, hwf, Sf⟩ := store9 S (.int .u16 0) (.int .u16 0) (.int .u32 0) (.int .u32 0) (.int .u8 0) (.int .u16 0) (.int .u16 0) (.slice none 0 0) (.slice none 0 0)
    rw [hwf]
    have Ef := Sf.other (k := k + 1 + 1) (by omega) Eb
    obtain ⟨wg, hwg, Sg⟩ := store1 Ef 0 (.int .i64 4)
    rw [hwg, Exit.noGoto_ret]
    have Sz := Sg.other (k := k + 1) (by omega) Sf.blk
    have pf := (Sz.drew).cell
    have pg := (Sg.blk.drew).cell
    have Tg := Sg.bel (Sf.bel hB (by omega)) (by omega)
    have hdn : ∀ D : Nat, W.heap[D]? = some (Obj.deferred (some [])) → wg.drew.heap[D]? = some (Obj.deferred (some [])) := fun D h => by
      have e1 : k + 1 ≠ D := fun e => by subst e; have := S.rd; rw [h] at this; cases this
      have e2 : k + 1 + 1 ≠ D := fun e => by subst e; have := Eb.rd; rw [h] at this; cases this
      show wg.heap[D]? = _
      rw [← hwg, ← hwf]
      simp only [heap_setCell_ne _ _ _ _ _ e1, heap_setCell_ne _ _ _ _ _ e2]
      exact h
    rcases hde with rfl | ⟨D, rfl, hD, hge⟩
    · show LeavesInM _ _ _ _ _ _ [] .returning _
      exact ⟨(.tuple #[.agg #[.int .u16 0, .int .u16 0, .int .u32 0, .int .u32 0, .int .u8 0, .int .u16 0, .int .u16 0, .slice none 0 0, .slice none 0 0], .int .i64 4]), by simp [results, Try.results14, go_sem, pf, pg], HN.out HNO.out _ _ (tcPost_no (below_drew Tg))⟩
    · show LeavesInM _ _ _ _ _ _ _ .returning _
      refine ⟨by simp, .inl ⟨_, _, rfl, run_takeDeferred (hdn D hD), ?_⟩⟩
      have d1 : k + 1 ≠ D := fun e => by subst e; have := S.rd; rw [hD] at this; cases this
      have d2 : k + 1 + 1 ≠ D := fun e => by subst e; have := Eb.rd; rw [hD] at this; cases this
      have pf2 : ∀ j, (wg.drew.putObj D (Obj.deferred none)).cell? ⟨k + 1, j, none⟩ = _ := fun j => (cell_putObj d1 _).trans (pf.1 j)
      have pg2 : ∀ j, (wg.drew.putObj D (Obj.deferred none)).cell? ⟨k + 1 + 1, j, none⟩ = _ := fun j => (cell_putObj d2 _).trans (pg.1 j)
      exact ⟨(.tuple #[.agg #[.int .u16 0, .int .u16 0, .int .u32 0, .int .u32 0, .int .u8 0, .int .u16 0, .int .u16 0, .slice none 0 0, .slice none 0 0], .int .i64 4]), by simp [results, Try.results14, go_sem, pf2, pg2], HN.out HNO.out _ _ (tcPost_no (below_putObj (below_drew Tg) hge _))⟩
  case first =>
    obtain ⟨w2, hw2, S2⟩ := store1 E1 0 (.int .i64 3)
    have P2 := S2.other (by omega) P1
    have pc2 := P2.cell
    have SS2 := S2.other (by omega) S1
    have R2 := S2.bel R1 (by omega)
    have x2 := k2.below R2
    have el2 := S2.blk.lt
    have g12b := x2.at_ (j := 12) (by omega)
    rw [hx] at g12b
    clear hx g12
    gi_wp2_with (first
      | (refine ⟨trivial, ?_⟩; gi_at_call 36; refine (callsIn_wide.2 (fits_any p hp A1 n1 c1 _ n2 c2 6 (by omega) (by omega) w2 x2 h7)).mono ?_; rintro e w3 ⟨he, hB3⟩; (try rw [h6] at he); subst he; have P3 := P2.below hB3; have E3 := (S2.blk).below hB3; have SS3 := SS2.below hB3; have ec3 := E3.cell; have sc3 := SS3.cell; have el3 := E3.lt; have R3 := below_then R2 hB3; have x3 := x2.below hB3)
      | (refine ⟨trivial, ?_⟩; gi_at_call 37; refine (callsIn_wide.2 (split_any A' n' c' w3)).mono ?_; rintro e w4 ⟨rfl, hw4⟩; (obtain ⟨kB, hkB⟩ : ∃ kB : Nat, w3.heap.size = kB := ⟨_, rfl⟩); rw [hkB]))
    clear hw4
    obtain ⟨w4, hw4⟩ : ∃ w4, w3.alloc (.cells #[.slice A' n' c'] 24) = w4 := ⟨_, rfl⟩
    rw [hw4]
    have hB4 : Below w3.heap.size w3 w4 := by rw [← hw4]; exact (Below.refl _ _).alloc (Nat.le_refl _) _
    have B4 : Blk w4 kB #[.slice A' n' c'] 24 := by rw [← hw4]; exact blk_new _ _ _ _ hkB
    have E4 := E3.below hB4
    have SS4 := SS3.below hB4
    have R4 := below_then R3 hB4
    have x4 := x3.below hB4
    have hk4 : k + 1 + 1 < kB := by rw [← hkB]; exact el3
    have hD4 : w4.heap.size = kB + 1 := by rw [← hw4, ← hkB]; simp
    clear hw4 P3 E3 SS3 ec3 sc3 el3 P2 SS2 pc2 hB3 hkB x2 g12b P1 S1 E1 Pc1 Sc1 Ec1 el2
    refine range_law2 rfl (by omega) (gf := 69) (lb := #[.pointer (some ⟨kB, 0, none⟩)]) rfl trivial (enters_of Try.func69 (by kernel_rfl) rfl)
      encX (fun _ => rfl) spStep ⟨[], .slice A' n' c', none, false⟩ (fun s => optsP l = some s.os) (SplI w kB (TcC w k kB w4.heap.size)) (TcIx w k l) (SplOk l) (TcR w k kB w4.heap.size) ?hI ?hIx ?hJ ?h0 ?hassign ?hbody ?hiter ?hdone ?hstop
    case hI => exact fun s W o ho h => splI_put h o ho (by have := R4.size; omega) (by omega)
    case hIx =>
      rintro c s W o ho ⟨i1, i2, i3, ⟨d0, d1, d2, d3, d4, d5, d6, d7, d8, S⟩, i5, i6⟩
      exact ⟨i1, i2, i3, ⟨d0, d1, d2, d3, d4, d5, d6, d7, d8, ⟨(World.putObj_heap_other (by omega)).trans S.rd⟩⟩, ⟨(World.putObj_heap_other (by omega)).trans i5.rd⟩, below_putObj i6 (by have := R4.size; omega) _⟩
    case hJ =>
      rintro s x a W o ho ⟨j1, j2, j3, ⟨q, j4, j5, j6, j7⟩, j8, j9, j10⟩
      exact ⟨j1, j2, j3, ⟨q, j4, j5.put j10.1.d o, j6, j7⟩, j8, j9, splI_put j10 o ho (by have := R4.size; omega) (by omega)⟩
    case h0 =>
      intro o o' ho ho'
      have hb' : Below w4.heap.size w4 ((w4.alloc o).alloc o') := ((Below.refl _ w4).alloc (Nat.le_refl _) _).alloc (by simp) _
      refine ⟨⟨⟨none, 0, SS4.below hb', osO_nil _ _⟩, E4.below hb', ⟨_, B4.below hb'⟩, ⟨o', ?_, ho'⟩⟩, ?_, ?_, below_then R4 hb', rfl, fun x h => by cases h⟩
      · have := World.alloc_heap_new (w4.alloc o) o'
        rwa [World.size_alloc] at this
      · exact (B4.below hb').cell.1 0
      · exact (B4.below hb').cell.2 0
    case hassign =>
      intro s x W K hok hi hs hK
      dsimp only [encX]
      gi_wp2
      have hb' : Below W.heap.size W (W.alloc (.cells #[.int .u8 x.o.kind, .slice x.A x.n x.c] 66)) := (Below.refl _ W).alloc (Nat.le_refl _) _
      refine hK _ _ (keeps_alloc _ _) ?_
      exact ⟨rfl, rfl, rfl, ⟨W.heap.size, rfl, blk_new _ _ _ _ rfl, by omega, by omega⟩, rfl, rfl, hi.below (fun os W W' h hb => h.below hb) hb'⟩
    case hbody =>
      rintro s y bb W ⟨hpd, hok1, hok2⟩ ⟨js, j2, j3, ⟨qq, j6, Qb, qn1, qn2⟩, j7, jd, ji⟩ hz
      obtain ⟨f, hf, hfv⟩ := slots js
      have f2 := hfv 2 _ (by omega) j2
      have f3 := hfv 3 _ (by omega) j3
      have f6 := hfv 6 _ (by omega) j6
      have f7 := hfv 7 _ (by omega) j7
      obtain ⟨tm, df⟩ := bb
      simp only at hf jd
      subst hf jd
      simp only [List.range, List.range.loop, List.map_cons, List.map_nil, f2, f3, f6, f7]
      obtain ⟨⟨⟨OA, oc, Sb, Ob⟩, Eb, ⟨vB, Bb⟩, Nc⟩, iB, iF, iL, ibad, iD⟩ := ji
      have sc := Sb.cell
      have ec := Eb.cell
      have qc := Qb.cell
      have sl := Sb.lt
      have el := Eb.lt
      have ql := Qb.lt
      clear hfv j2 j3 j6 j7 js
      cases hy : y.ok with
      | false =>
        have HO : Hid (optsP l = none) := hok1 hy
        clear hok1 hok2 hpd iD
        gi_wp2
        apply wpIn_goto
        exact ⟨keeps_setCell _ _ _, rfl, by simp [spStep, hy], HO.out, ⟨_, _, _, _, _, _, _, _, _, Sb.far _ (by simp) _⟩, Eb.set_ 0 (.int .i64 4), iL.setCell (p := ⟨k + 1 + 1, 0, none⟩) (by simp only []; have := R4.size; omega) _⟩
      | true =>
        obtain ⟨xs, hxs, hj⟩ := Ob.own
        have hown := iD y hpd hy
        have HLs := Lib.hid (hok2 hy)
        have Hj := Lib.hid hj
        have HL := Lib.hid hbO.len
        clear hok1 hok2 hpd iD hj
        obtain ⟨m, hm⟩ : ∃ m, s.os.length = m := ⟨_, rfl⟩
        rw [hm] at Sb Ob hxs Hj HLs sc
        have hm40 : m ≤ 40 := by have := HLs.out; have := HL.out; omega
        have HM := Lib.hid hm
        clear hm
        obtain ⟨ii, hi, hz', hs', hb'⟩ := info_parts info_opt
        have hT1 : (29 : TypeId) ≠ 66 := by decide
        have hT2 : (30 : TypeId) ≠ 66 := by decide
        have hT3 : (24 : TypeId) ≠ 66 := by decide
        have hT4 : (29 : TypeId) ≠ 5 := by decide
        gi_wp2_with (gi_at_builtin; refine wpListIn_appG (w0 := w) _ rfl _ _ _ rfl w.heap.size 66 ii (.agg #[.int .u8 0, .slice none 0 0]) 2 32 Try.underlying27 hi hz' hs' hb' rfl (by omega) (by omega) OA m oc xs rfl (hxs.alloc _) ⟨W.heap.size, 0, none⟩ 1 1 [.int .u8 y.o.kind, .slice y.A y.n y.c] rfl rfl (new2 _ _ _ _) (by intro u h; simp at h; rcases h with rfl | rfl <;> rfl) (below_alloc iL (by omega) _) (by omega) (by have := iL.size; simp; omega) ?_; intro A5 c5 w5 O5 hB5 hG5 hz5; have hx2 := hxs.alloc (.cells #[.int .u8 y.o.kind, .slice y.A y.n y.c] 66); have S5 := (Sb.alloc (.cells #[.int .u8 y.o.kind, .slice y.A y.n y.c] 66)).kept hG5 (hx2.ne_blk (Sb.alloc (.cells #[.int .u8 y.o.kind, .slice y.A y.n y.c] 66)) hT1); have sc5 := S5.cell)
        have vv : vB = s.v := by have e1 := Bb.cell.1 0; rw [iB] at e1; simpa using e1.symm
        have E5 := (Eb.alloc (.cells #[.int .u8 y.o.kind, .slice y.A y.n y.c] 66)).kept hG5 (hx2.ne_blk (Eb.alloc _) hT2)
        have B5 := ((Bb.alloc (.cells #[.int .u8 y.o.kind, .slice y.A y.n y.c] 66)).kept hG5 (hx2.ne_blk (Bb.alloc _) hT3)).far ⟨k + 1, 7, none⟩ (by simp only []; omega) (.slice A5 (m + 1) c5)
        have N5 := ((Nc.below ((Below.refl _ W).alloc (Nat.le_refl _) (.cells #[.int .u8 y.o.kind, .slice y.A y.n y.c] 66))).kept hG5 hx2.cells).set ⟨k + 1, 7, none⟩ (.slice A5 (m + 1) c5)
        have OO := (Ob.below ((Below.refl _ W).alloc (Nat.le_refl _) (.cells #[.int .u8 y.o.kind, .slice y.A y.n y.c] 66))).snoc hx2 (fun j hj => by obtain ⟨a1, B', m', d', a2, a3⟩ := Hj.out j hj; exact ⟨a1, B', m', d', a2, a3.alloc _⟩) hG5 y.o (hown.alloc _) O5
        have OO2 := OO.apart (grownBy_setCell w5 ⟨k + 1, 7, none⟩ (.slice A5 (m + 1) c5)) (fun j e => by cases e; exact ⟨S5.notOf hT4, S5.notOf hT1⟩)
        refine ⟨?_, ⟨⟨A5, c5, ?_, ?_⟩, E5.far _ (by simp) _, ⟨_, B5⟩, N5⟩, ?_, B5.cell.2 0, hB5.setCell (p := ⟨k + 1, 7, none⟩) (by simp only []; omega) _, by simp [spStep, hy], fun x h => by cases h⟩
        · exact (keeps_alloc _ _).trans (((KeepsOthers.of_grownBy hG5 hx2.cells).from _).trans (keeps_setCell _ _ _))
        · have := S5.set_ 7 (.slice A5 (m + 1) c5)
          simp only [spStep, hy, if_true, List.length_append, List.length_cons, List.length_nil, HM.out]
          exact this
        · simp only [spStep, hy, if_true, List.length_append, List.length_cons, List.length_nil, HM.out]
          exact OO2
        · rw [B5.cell.1 0, vv]; rfl
    case hiter =>
      intro R Rx W1 hRk hRs hY h0 hR0 hz
      exact split1_in w4.heap.size kB w l n' hbO.len (by omega) (by omega) hbO.max (TcC w k kB w4.heap.size) (TcIx w k l) R Rx (fun os W W' h hb => h.below hb) (fun os W u h => h.setB (by omega) (by omega) u) (fun c s W h => h.bad) hRk hY W1 A' c' hbO h0 hR0
    case hstop =>
      rintro c s W ⟨rfl, i2, i3, ⟨d0, d1, d2, d3, d4, d5, d6, d7, d8, S⟩, i5, i6⟩ hK
      apply wpIn_goto
      exact ⟨rfl, ⟨rfl, rfl, rfl, ⟨_, _, _, _, _, _, _, _, _, S⟩, i5, i6, .inr ⟨_, rfl, hK, by have := R4.size; omega⟩⟩, i3⟩
    case hdone =>
      rintro s u10 hS ⟨⟨⟨OA, oc, S10, O10⟩, E10, -, -⟩, -, -, L10, -, -⟩ hK
      have z10 := k2.below L10
      have HOS : Hid (optsP l = some s.os) := hS
      obtain ⟨m, hm⟩ : ∃ m, s.os.length = m := ⟨_, rfl⟩
      rw [hm] at S10 O10
      have kl := R4.size
      have HM := Lib.hid hm
      have HL := Lib.hid hbO.len
      clear hS hm
      rw [hD4] at hK
      have lt10 := (Array.getElem?_eq_some_iff.1 hK).1
      have hne1 : k + 1 ≠ kB + 1 := by omega
      have hne2 : k + 1 + 1 ≠ kB + 1 := by omega
      dsimp only
      gi_wp2
      with_reducible refine And.intro ?_ ?_
      exact trivial
      gi_at_call 38
      refine (callsIn_wide.2 (g0 u10 z10)).mono ?_
      rintro e u11 ⟨rfl, hD11⟩
      have hB11 := hD11.bel
      have S11 := S10.below hB11
      have E11 := E10.below hB11
      have z11 := z10.below hB11
      have L11 := below_then L10 hB11
      have O11 := O10.below hB11
      gi_wp2
      with_reducible refine And.intro ?_ ?_
      exact trivial
      gi_at_call 38
      refine (callsIn_wide.2 (g2 u11 z11)).mono ?_
      rintro e u12 ⟨rfl, hD12⟩
      have hB12 := hD12.bel
      have S12 := S11.below hB12
      have E12 := E11.below hB12
      have z12 := z11.below hB12
      have L12 := below_then L11 hB12
      have O12 := O11.below hB12
      gi_wp2
      with_reducible refine And.intro ?_ ?_
      exact trivial
      gi_at_call 39
      refine (callsIn_wide.2 (g4 u12 z12)).mono ?_
      rintro e u13 ⟨rfl, hD13⟩
      have hB13 := hD13.bel
      have S13 := S12.below hB13
      have E13 := E12.below hB13
      have z13 := z12.below hB13
      have L13 := below_then L12 hB13
      have O13 := O12.below hB13
      gi_wp2
      with_reducible refine And.intro ?_ ?_
      exact trivial
      gi_at_call 39
      refine (callsIn_wide.2 (g8 u13 z13)).mono ?_
      rintro e u14 ⟨rfl, hD14⟩
      have hB14 := hD14.bel
      have S14 := S13.below hB14
      have E14 := E13.below hB14
      have z14 := z13.below hB14
      have L14 := below_then L13 hB14
      have O14 := O13.below hB14
      have sc14 := S14.cell
      have sl14 := S14.lt
      obtain ⟨w6, hw6, S6⟩ := store0123 S14 (.int .u16 v0) (.int .u16 v2) (.int .u32 v4) (.int .u32 v8)
      gi_wp2
      have HK6 : w6.heap[kB + 1]? = some (Obj.deferred (some [])) := by
        rw [← hw6]; simp only [heap_setCell_ne _ _ _ _ _ hne1]; exact ((below_then (below_then (below_then hB11 hB12) hB13) hB14).block _ lt10).trans hK
      have lt6 := (Array.getElem?_eq_some_iff.1 HK6).1
      have L6 := S6.bel L14 (by omega)
      have z6 := k2.below L6
      have D6 := hbD.below L6
      have hT4 : (29 : TypeId) ≠ 5 := by decide
      have hT1 : (29 : TypeId) ≠ 66 := by decide
      have hT5 : (30 : TypeId) ≠ 5 := by decide
      have hT6 : (30 : TypeId) ≠ 66 := by decide
      have Q6 : SO w6 w.heap.size (k + 1) 29 OA m oc s.os := by rw [← hw6]; exact ((((SO.mk O14 ⟨_, S14⟩).set hT4 hT1 _ _).set hT4 hT1 _ _).set hT4 hT1 _ _).set hT4 hT1 _ _
      have E6 := S6.other (k := k + 1 + 1) (by omega) E14
      have l6 := L6.size
      have r6s : w.heap.size ≤ w6.heap.size := L6.size
      have i13 : (13 : Int) < n2 := by omega
      clear hw6 sc14 S10 S11 S12 S13 E10 E11 E12 E13 O10 O11 O12 O13 sl14
      refine wpIn_wide.2 ?_
      refine region_txt 12 (by kernel_rfl) (by kernel_rfl) ?_; (iterate 12 (first | (apply ObsK.skip (by rfl)) | (apply ObsK.v (by rfl); (intro wo hT; (repeat (first | (intro v hv; (skip)) | (intro _ _ k; try have hcv := cv k))); (have bo := z6.below hT; have hsz : w6.heap.size ≤ wo.heap.size := hT.size; have g13o := g13 wo bo); refine Goes.mk ?_; go_simp; first | exact goes_v | exact goes_b (by assumption) | (refine goes_enter ?_; first | (go_at_call 38; ((with_reducible refine (g14 wo bo).mono ?_); rintro e w9 ⟨rfl, hD9⟩); exact ret_v hD9.bel) | (go_at_call 38; ((with_reducible refine (g18 wo bo).mono ?_); rintro e w9 ⟨rfl, hD9⟩); exact ret_v hD9.bel) | (go_at_call 40; ((with_reducible refine (clone_any AD nD cD _ wo (D6.below hT)).mono ?_); rintro e w9 ⟨A9, c9, rfl, ho9, hB9⟩); exact ret_p (own_isW ho9 hsz) hB9)))) | (apply ObsK.b (by rfl); (intro wo hT; (repeat (first | (intro v hv; (skip)) | (intro _ _ k; try have hcv := cv k))); (have bo := z6.below hT; have hsz : w6.heap.size ≤ wo.heap.size := hT.size; have g13o := g13 wo bo); refine Goes.mk ?_; go_simp; first | exact goes_v | exact goes_b (by assumption) | (refine goes_enter ?_; first | (go_at_call 38; ((with_reducible refine (g14 wo bo).mono ?_); rintro e w9 ⟨rfl, hD9⟩); exact ret_v hD9.bel) | (go_at_call 38; ((with_reducible refine (g18 wo bo).mono ?_); rintro e w9 ⟨rfl, hD9⟩); exact ret_v hD9.bel) | (go_at_call 40; ((with_reducible refine (clone_any AD nD cD _ wo (D6.below hT)).mono ?_); rintro e w9 ⟨A9, c9, rfl, ho9, hB9⟩); exact ret_p (own_isW ho9 hsz) hB9)))) | (apply ObsK.p (q := isW w6.heap.size (p.dat.drop hd)) (by rfl) st_isW; (intro wo hT; (repeat (first | (intro v hv; (skip)) | (intro _ _ k; try have hcv := cv k))); (have bo := z6.below hT; have hsz : w6.heap.size ≤ wo.heap.size := hT.size; have g13o := g13 wo bo); refine Goes.mk ?_; go_simp; first | exact goes_v | exact goes_b (by assumption) | (refine goes_enter ?_; first | (go_at_call 38; ((with_reducible refine (g14 wo bo).mono ?_); rintro e w9 ⟨rfl, hD9⟩); exact ret_v hD9.bel) | (go_at_call 38; ((with_reducible refine (g18 wo bo).mono ?_); rintro e w9 ⟨rfl, hD9⟩); exact ret_v hD9.bel) | (go_at_call 40; ((with_reducible refine (clone_any AD nD cD _ wo (D6.below hT)).mono ?_); rintro e w9 ⟨A9, c9, rfl, ho9, hB9⟩); exact ret_p (own_isW ho9 hsz) hB9)))))); refine ObsK.nil ?_; intro wz hBz; simp only [finOn, List.drop_succ_cons, List.drop_zero, List.drop_nil]
      rintro v9 ⟨A9, n9, c9, rfl, O9⟩
      go_simp
      have Sz := S6.blk.below hBz
      have Ez := E6.below hBz
      have Qz := Q6.below hBz
      have Lz := below_then L6 hBz
      have szc := Sz.cell
      have szl := Sz.lt
      obtain ⟨wf, hwf, Sf⟩ := store4568 Sz (.int .u8 v13) (.int .u16 v14) (.int .u16 v18) (.slice A9 n9 c9)
      have sfc := Sf.blk.cell
      have Ef := Sf.other (k := k + 1 + 1) (by omega) Ez
      have efc := Ef.cell
      have sfl := Sf.blk.lt
      have efl := Ef.lt
      go_wp2_with fail
      obtain ⟨wg, hwg, Sg⟩ := store9 Sf.blk (.int .u16 v0) (.int .u16 v2) (.int .u32 v4) (.int .u32 v8) (.int .u8 v13) (.int .u16 v14) (.int .u16 v18) (.slice OA m oc) (.slice A9 n9 c9)
      have Eg := Sg.other (k := k + 1 + 1) (by omega) Ef
      have egc := Eg.cell
      have egl := Eg.lt
      obtain ⟨wh, hwh, Eh⟩ := store1 Eg 0 (.int .i64 0)
      have Sh := Eh.other (k := k + 1) (by omega) Sg.blk
      have shc := Sh.cell
      have ehc := Eh.blk.cell
      gi_wp2
      show LeavesInM _ _ _ _ _ _ _ .returning _
      have HKf : wf.heap[kB + 1]? = some (Obj.deferred (some [])) := by
        rw [← hwf]; simp only [heap_setCell_ne _ _ _ _ _ hne1]; exact (hBz.block _ lt6).trans HK6
      have HKg : wg.heap[kB + 1]? = some (Obj.deferred (some [])) := by
        rw [← hwg]; simp only [heap_setCell_ne _ _ _ _ _ hne1]; exact HKf
      have HKh : wh.heap[kB + 1]? = some (Obj.deferred (some [])) := by
        rw [← hwh]; simp only [heap_setCell_ne _ _ _ _ _ hne2]; exact HKg
      have Qf : SO wf w.heap.size (k + 1) 29 OA m oc s.os := by rw [← hwf]; exact (((Qz.set hT4 hT1 _ _).set hT4 hT1 _ _).set hT4 hT1 _ _).set hT4 hT1 _ _
      have Qg : SO wg w.heap.size (k + 1) 29 OA m oc s.os := by
        rw [← hwg]; exact ((((((((Qf.set hT4 hT1 _ _).set hT4 hT1 _ _).set hT4 hT1 _ _).set hT4 hT1 _ _).set hT4 hT1 _ _).set hT4 hT1 _ _).set hT4 hT1 _ _).set hT4 hT1 _ _).set hT4 hT1 _ _
      have Qh : OsO wh w.heap.size OA m oc s.os := by
        rw [← hwh]; exact Qg.o.apart (grownBy_setCell _ _ _) (fun j e => by cases e; exact ⟨Eg.notOf hT5, Eg.notOf hT6⟩)
      have NC : NoCells wh (kB + 1) := ⟨_, HKh, rfl⟩
      have Qe := Qh.apart (grownBy_putObj' wh (kB + 1) (Obj.deferred none)) (fun j e => by cases e; exact ⟨NC.notOf _, NC.notOf _⟩)
      have el6 := E6.lt
      have Of := Sf.own O9 (fun a e => by have := O9.ge a e; omega)
      have Og := Sg.own Of (fun a e => by have := O9.ge a e; omega)
      have Oh := Eh.own Og (fun a e => by have := O9.ge a e; omega)
      have Oe := Oh.apart (grownBy_putObj' wh (kB + 1) (Obj.deferred none)) (fun j e => by cases e; exact NC.notOf _)
      have Lh := Eh.bel (Sg.bel (Sf.bel Lz (by omega)) (by omega)) (by omega)
      refine ⟨by simp, .inl ⟨_, _, rfl, run_takeDeferred HKh, ?_⟩⟩
      have pf2 : ∀ j, (wh.putObj (kB + 1) (Obj.deferred none)).cell? ⟨k + 1, j, none⟩ = _ := fun j => (cell_putObj (by simpa using hne1) _).trans (shc.1 j)
      have pg2 : ∀ j, (wh.putObj (kB + 1) (Obj.deferred none)).cell? ⟨k + 1 + 1, j, none⟩ = _ := fun j => (cell_putObj (by simpa using hne2) _).trans (ehc.1 j)
      exact ⟨.tuple #[.agg #[.int .u16 v0, .int .u16 v2, .int .u32 v4, .int .u32 v8, .int .u8 v13, .int .u16 v14, .int .u16 v18, .slice OA m oc, .slice A9 n9 c9], .int .i64 0], by simp [results, Try.results14, go_sem, pf2, pg2],
        HY.out s.os HOS.out _ _ ⟨OA, m, oc, A9, n9, c9, rfl, Qe, by have := optsP_len HOS.out; have := HM.out; have := HL.out; omega, Oe.mono r6s, below_putObj Lh (by omega) _⟩⟩
end Go.Proofs.Ytjjhnjkmoogloaa
namespace Go.Proofs.Ytjjhnjkmoogloaa
open Go.RowKit
set_option linter.unusedVariables false
set_option linter.unusedSimpArgs false
set_option maxHeartbeats 4000000
theorem tc_ways (p : Pkt) (n2 : Nat) (l2 : p.dat.length = n2) (x : Int) (hx : bt p.dat 12 = x) (hd : Nat) (hh : hdS p.dat = hd) :
    (tcE p ≠ 0 ∧ ((tcE p = 12 ∧ (p.proto != 6) = true) ∨ (tcE p = 3 ∧ (p.proto != 6) = false ∧ (n2 : Int) < 20) ∨ (tcE p = 4 ∧ (p.proto != 6) = false ∧ 20 ≤ (n2 : Int) ∧ (hd : Int) < 20) ∨ (tcE p = 4 ∧ (p.proto != 6) = false ∧ 20 ≤ (n2 : Int) ∧ 20 ≤ (hd : Int) ∧ (x % 16 != 0) = true) ∨
      (tcE p = 3 ∧ (p.proto != 6) = false ∧ 20 ≤ (n2 : Int) ∧ 20 ≤ (hd : Int) ∧ (x % 16 != 0) = false ∧ (n2 : Int) < (hd : Int)) ∨ (tcE p = 5 ∧ (p.proto != 6) = false ∧ 20 ≤ (n2 : Int) ∧ 20 ≤ (hd : Int) ∧ (x % 16 != 0) = false ∧ (hd : Int) ≤ (n2 : Int) ∧ (psum p 6 p.dat == 0) = false))) ∨
    ((p.proto != 6) = false ∧ 20 ≤ (n2 : Int) ∧ 20 ≤ (hd : Int) ∧ (x % 16 != 0) = false ∧ (hd : Int) ≤ (n2 : Int) ∧ (psum p 6 p.dat == 0) = true ∧ (optsP ((p.dat.take hd).drop 20) = none → tcE p = 4) ∧ (∀ os, optsP ((p.dat.take hd).drop 20) = some os → tcE p = 0)) := by
  unfold tcE
  rw [l2, hh, hx]
  by_cases h1 : p.proto = 6
  · by_cases h2 : n2 < 20
    · have h2' : (n2 : Int) < 20 := by omega
      simp [h1, h2, h2']
    · have h2' : 20 ≤ (n2 : Int) := by omega
      by_cases h3 : hd < 20
      · have h3' : (hd : Int) < 20 := by omega
        simp [h1, h2, h2', h3, h3']
      · have h3' : 20 ≤ (hd : Int) := by omega
        by_cases h4 : x % 16 = 0
        · by_cases h5 : n2 < hd
          · have h5' : (n2 : Int) < hd := by omega
            simp [h1, h2, h2', h3, h3', h4, h5, h5']
          · have h5' : (hd : Int) ≤ n2 := by omega
            by_cases h6 : psum p 6 p.dat = 0
            · right
              refine ⟨by simp [h1], h2', h3', by simp [h4], h5', by simp [h6], fun h => ?_, fun os h => ?_⟩
              · simp [h1, h2, h3, h4, h5, h6, h]
              · simp [h1, h2, h3, h4, h5, h6, h]
            · left
              have h6' : (psum p 6 p.dat == 0) = false := by simp [h6]
              rw [if_neg (by simp [h1]), if_neg h2, if_neg (by simp [h3, h4]), if_neg h5, if_pos h6]
              exact ⟨by decide, .inr (.inr (.inr (.inr (.inr ⟨rfl, by simp [h1], h2', h3', by simp [h4], h5', h6'⟩))))⟩
        · left
          rw [if_neg (by simp [h1]), if_neg h2, if_pos (.inr h4)]
          exact ⟨by decide, .inr (.inr (.inr (.inl ⟨rfl, by simp [h1], h2', h3', by simp [h4]⟩)))⟩
  · left
    rw [if_pos h1]
    exact ⟨by decide, .inl ⟨rfl, by simp [h1]⟩⟩
theorem tcp_any (p : Pkt) (hp : p.Ok) (A1 : Option Addr) (n1 c1 : Nat) (A2 : Option Addr) (n2 c2 : Nat) (w : World) (k2 : Bs w A2 n2 c2 p.dat) (h7 : n2 ≤ 140737488400000) :
    Calls Try.prog 14 #[(.agg #[.int .u8 (p).tos, .int .u16 (p).id, .bool (p).keep, .int .u8 (p).ttl, .int .u8 (p).proto, .int .u32 (p).src, .int .u32 (p).dst, .slice A1 n1 c1, .slice A2 n2 c2])] w (TcPost w (tcS p) (tcE p)) := by
  have b0 := bt_lo p.dat 12
  have hq : bt p.dat 12 / 16 * 4 = ((hdS p.dat : Nat) : Int) := by unfold hdS; omega
  rcases tc_ways p n2 k2.len _ rfl _ rfl with ⟨h0, h⟩ | ⟨h1, h2, h3, h4, h5, h6, hN, hY⟩
  · have hs : tcS p = zS := by unfold tcS; rw [if_neg h0]
    rw [hs]
    refine tcp_no p hp A1 n1 c1 A2 n2 c2 w k2 _ _ _ _ rfl rfl hq ?_
    rcases h with h | h | h | h | h | h
    · exact .inl h
    · exact .inr (.inl h)
    · exact .inr (.inr (.inl h))
    · exact .inr (.inr (.inr (.inl h)))
    · exact .inr (.inr (.inr (.inr (.inl h))))
    · exact .inr (.inr (.inr (.inr (.inr ⟨h.1, h.2.1, h.2.2.1, h.2.2.2.1, h.2.2.2.2.1, h.2.2.2.2.2.1, h.2.2.2.2.2.2, h7⟩))))
  · refine tcp_go p hp A1 n1 c1 A2 n2 c2 w k2 _ _ _ rfl rfl hq h1 h2 h3 h4 h5 h6 h7 _ (fun hn e w' k => ?_) (fun os hs e w' k => ?_)
    · have he := hN hn
      have hz : tcS p = zS := by unfold tcS; rw [if_neg (by omega)]
      rw [hz, he]
      exact k
    · have he := hY os hs
      have hz : tcS p = ⟨get16 p.dat 0, get16 p.dat 2, get32 p.dat 4, get32 p.dat 8, bt p.dat 13, get16 p.dat 14, get16 p.dat 18, os, p.dat.drop (hdS p.dat)⟩ := by
        unfold tcS; rw [if_pos he]; unfold rdS; rw [hs]; rfl
      rw [hz, he]
      exact k
set_option maxRecDepth 100000
theorem cu_zsl (k : Nat) : (Builtin.zeroCells #[Value.int .u8 0] k).toList = cu (zs k) := by
  have := cu_zs k
  have h2 : madeCells #[Value.int .u8 0] k = Builtin.zeroCells #[Value.int .u8 0] k := by
    apply Array.ext'
    rw [toList_madeCells_one]
    apply List.ext_getElem?
    intro i
    by_cases h : i < k <;> simp [Builtin.zeroCells, Nat.mod_one, List.getElem?_replicate, h]
  rw [← h2, ← this]
theorem run_append_zeros {P : Program} (w : World) (base : Nat) (t tn ty e : TypeId) (kn kq : IntKind) (ht : P.underlying t = some (.slice e)) (htn : P.underlying tn = some (.int kn)) (hinfo : (P.info? e).map (fun i => (i.zero, i.size, i.bytes)) = some (some (.int .u8 0), 1, 1))
    (g n c : Nat) (l : List UInt8) (hown : Own w base e (some ⟨g, 0, none⟩) n c l) (k : Nat) (hk : k ≤ 100) (hn : n ≤ 100000000) (hbase : base ≤ w.heap.size) :
    ∃ A' c' w', (Builtin.append_ #[t, tn] ty #[.slice (some ⟨g, 0, none⟩) n c, .int kq (k : Int)]).run P w = .ok (.slice A' (n + k) c') w' ∧ Own w' base e A' (n + k) c' (l ++ zs k) ∧ w.grownBy w' (some g) := by
  obtain ⟨i, hi, hz, hs, hb⟩ := info_parts hinfo
  have hw : IntKind.i64.wrap (k : Int) = k := by rw [IntKind.wrap_i64]; omega
  have hlen : (l ++ zs k).length = n + k := by rw [List.length_append, hown.len, zs_length]
  have hbs := hown.bs
  obtain ⟨hl, hm, hr1, hr2⟩ := hown
  rcases hr2 with ⟨hv, _⟩ | ⟨g', cap, cur, hv, hbg, hg, hnc, hcm, hcs, htake⟩
  · injection hv with hv; cases hv
  injection hv with h3 h4 h5
  injection h3 with h3
  injection h3 with h3
  subst h3 h5
  rw [Nat.mul_one] at hcs htake
  have hneg : ¬ ((k : Int) < 0) := by omega
  have h48i : ¬ (281474976710656 < (k : Int) * ((1 : Nat) : Int)) := by omega
  by_cases hroom : n + k ≤ c
  · obtain ⟨X, hX⟩ : ∃ X : Array Value, (cur.toList.take n ++ cu (zs k) ++ cur.toList.drop (n + k)).toArray = X := ⟨_, rfl⟩
    have hst := run_storeCells_at (P := P) g n e (cu (zs k)) 0 cur w hg (by rw [cu_length, zs_length]; omega) (cu_one _)
    simp only [Nat.add_zero, cu_length, zs_length, hX] at hst
    refine ⟨some ⟨g, 0, none⟩, c, w.setRow g X, ?_, ⟨hlen, by omega, ⟨by rw [cu_length]; omega, .inr ⟨g, c, X, rfl, hbg, setRow_heap w g cur X e (0, 0) hg, hroom, hcm, ?_, ?_⟩⟩⟩, ⟨rfl, rfl, rfl, by simp, fun j _ hj => setRow_other w g j _ (fun e => hj (by rw [e]))⟩⟩
    · have ha : (⟨g, 0, none⟩ : Addr).add (n * i.size) = ⟨g, n, none⟩ := by rw [hs, Nat.mul_one]; unfold Addr.add; split <;> simp_all
      by_cases hk0 : k = 0
      · subst hk0
        have hst0 : (storeCells ⟨g, n, none⟩ [] 0).run P w = .ok () (w.setRow g X) := by simpa [zs, cu] using hst
        have hw0 : IntKind.i64.wrap 0 = 0 := by decide
        have hroom0 : n ≤ c := by omega
        simp [Builtin.append_, run_underlying ht, run_underlying htn, sizeOf, typeInfo, zeroValue, hi, hz, hs, hb, asInt, asIntOf, hw0, hroom0, Addr.add_lit, hst0]
      · have hns : ¬ (k * 1 = 0) := by omega
        have hz2 : (Builtin.zeroCells (Value.int .u8 0).cells k).toList = cu (zs k) := cu_zsl k
        simp [Builtin.append_, run_underlying ht, run_underlying htn, sizeOf, typeInfo, zeroValue, hi, hz, hs, hb, asInt, asIntOf, hw, hneg, hroom, hk0, h48i, Addr.add_lit, hz2, hst]
        intro h
        omega
    · rw [← hX]; simp [cu_length, zs_length]; omega
    · rw [← hX]
      simp only [Nat.mul_one]
      rw [← cu_append, ← htake]
      have e1 : (cur.toList.take n ++ cu (zs k)).length = n + k := by simp [cu_length, zs_length]; omega
      rw [List.take_left' e1]
  · have hold : (Builtin.firstCells i.size n (.slice (some ⟨g, 0, none⟩) n c)).run P w.drew = .ok (cu l).toArray w.drew := by
      refine run_firstCells_some (P := P) w.drew i.size n ⟨g, 0, none⟩ n c (cu l) (by rw [hs, cu_length]; omega) fun j u hj => ?_
      exact (hbs.drew).cells rfl j u hj
    have hr := Lib.run_append_grow_zeros (P := P) w t tn ty e i (.int .u8 0) kq kn ht htn hi hz (some ⟨g, 0, none⟩) n c (cu l) hold k (by omega) (by omega) (by omega) (by omega) (by rw [hb]; omega) (growslice_fits_wide (by omega) (by rw [hb]; omega))
    have hge : n + k ≤ grownCap w (n + k) c e := grownCap_ge w (n + k) c e
    refine ⟨_, _, _, hr, ⟨hlen, by omega, ⟨by rw [cu_length]; omega, .inr ⟨w.heap.size, _, _, rfl, hbase, heap_alloc_new w.drew _, hge, grownCap_le_maxLen w (n + k) c e (by simp only [maxLen]; omega), ?_, ?_⟩⟩⟩, ⟨rfl, rfl, rfl, by simp, fun j hj _ => Below.heap_alloc w.drew _ j hj⟩⟩
    · simp [Array.size_append, size_zeroCells, Value.cells, cu_length]; omega
    · rw [Nat.mul_one, ← cu_append, ← cu_zsl k]
      simp only [Array.toList_append, List.toList_toArray, List.append_assoc]
      rw [← List.append_assoc]
      refine List.take_left' ?_
      simp [size_zeroCells, cu_length, Value.cells]; omega
theorem goes_zerosX {P : Program} {o : Oper} {a : Act} {W : World} {g : Nat} (s x : Operand) (t tn e : TypeId) (kn kq : IntKind) (ho : o.op = .call { callee := .builtin .append, args := #[s, x], argTypes := #[t, tn] }) (ht : P.underlying t = some (.slice e)) (htn : P.underlying tn = some (.int kn)) (hinfo : (P.info? e).map (fun i => (i.zero, i.size, i.bytes)) = some (some (.int .u8 0), 1, 1))
    {B n c : Nat} {l : List UInt8} (hs : a.eval s = .slice (some ⟨g, 0, none⟩) n c) (hown : Own W B e (some ⟨g, 0, none⟩) n c l) {k : Nat} (hx : a.eval x = .int kq (k : Int)) (hk : k ≤ 100) (hn : n ≤ 100000000) (hB : B ≤ W.heap.size) {J : World → Prop} (hJ : ∀ w', J w') :
    OpGoes P (fun v w' => (Kd.p (fun w'' v => ∃ A n' c', v = .slice A n' c' ∧ Own w'' B e A n' c' (l ++ zs k))).holds w' v ∧ W.grownBy w' (some g) ∧ J w') ((execOp a.eval o).run P W) := by
  obtain ⟨A', c', w', hrun, hown', hgr⟩ := run_append_zeros (P := P) W B t tn o.type e kn kq ht htn hinfo g n c l hown k hk hn hB
  unfold execOp
  simp only [ho, resolve, invoke, builtin, Sem.run_bind, Sem.run_pure, Result.andThen_ok, List.map_toArray, List.map_cons, List.map_nil, hs, hx, hrun]
  exact ⟨⟨A', _, c', rfl, hown'⟩, hgr, hJ _⟩
def Kd.OkN (Rl : World → World → Prop) : Kd → Prop
  | .v _ => True
  | .b _ _ => False
  | .p q => ∀ w w' u, q w u → Rl w w' → q w' u
theorem Kd.keepN {Rl : World → World → Prop} {K : Kd} (hk : K.OkN Rl) {w w' : World} {v : Value} (h : K.holds w v) (hb : Rl w w') : K.holds w' v := by
  cases K with
  | v x => exact h
  | b n l => exact hk.elim
  | p q => exact hk _ _ _ h hb
structure GoesN (P : Program) (K : Kd) (Rl : World → World → Prop) (J : World → Prop) (o : Oper) (W : World) (a : Act) : Prop where
  out : OpGoes P (fun v w' => K.holds w' v ∧ Rl W w' ∧ J w') ((execOp a.eval o).run P W)
def Ob1N (P : Program) (ops : Array Oper) (a0 : Act) (w0 : World) (Rl : World → World → Prop) (J : Nat → World → Prop) (c : Nat) (x : Bool) (nz ks : List (Tmp × Kd)) (o : Oper) (K : Kd) : Prop :=
  (x = false ∧ wantK ops ks o.guard = some true ∧ ∀ W, Rl w0 W → leanOn ks W o.op.operands.toList (Goes P K o W) a0) ∨
  (x = true ∧ wantK ops ks o.guard = some true ∧ ∀ W, Rl w0 W → J c W → leanOn (nz ++ ks) W o.op.operands.toList (GoesN P K Rl (J (c + 1)) o W) a0) ∨
  (x = false ∧ wantK ops ks o.guard = some false ∧ K = .v undef)
def kT : Kd := .p fun _ _ => True
def ObsN (P : Program) (ops : Array Oper) (a0 : Act) (w0 : World) (Rl : World → World → Prop) (J : Nat → World → Prop) (exs : List Nat) (fin : List (Tmp × Kd) → Prop) : Nat → Nat → List (Tmp × Kd) → List (Tmp × Kd) → List Oper → Prop
  | _, _, _, ks, [] => fin ks
  | i, c, nz, ks, o :: rest => ∃ K K' t, o.dst = some t ∧ (K.Ok ∧ (K' = K ∨ K' = kT) ∧ (lastX exs i = true ∨ K'.OkN Rl)) ∧ Ob1N P ops a0 w0 Rl J c (exs.elem i) nz ks o K ∧
      ObsN P ops a0 w0 Rl J exs fin (i + 1) (bif exs.elem i then c + 1 else c) (bif exs.elem i then [(t, K)] else (bif c == 0 then (t, K) :: nz else nz)) ((t, K') :: ks) rest
section
variable {P : Program} {ops : Array Oper} {a0 : Act} {w0 : World} {Rl : World → World → Prop} {J : Nat → World → Prop} {exs : List Nat} {fin : List (Tmp × Kd) → Prop} {i c : Nat} {nz ks : List (Tmp × Kd)} {rest : List Oper}
  {t : Tmp} {op : Op} {ty : TypeId} {pos : String} {after : Array Edge} {gd : Option (Nat × Bool)}
theorem ObsN.v {x : Value} (hx : exs.elem i = false) (hg : wantK ops ks gd = some true) (ho : ∀ W, Rl w0 W → leanOn ks W op.operands.toList (Goes P (.v x) ⟨some t, op, ty, pos, after, gd⟩ W) a0)
    (hr : ObsN P ops a0 w0 Rl J exs fin (i + 1) c (bif c == 0 then (t, .v x) :: nz else nz) ((t, .v x) :: ks) rest) : ObsN P ops a0 w0 Rl J exs fin i c nz ks (⟨some t, op, ty, pos, after, gd⟩ :: rest) :=
  ⟨.v x, .v x, t, rfl, ⟨trivial, .inl rfl, .inr trivial⟩, .inl ⟨hx, hg, ho⟩, by rw [hx]; exact hr⟩
theorem ObsN.l {q : World → Value → Prop} (hx : exs.elem i = false) (hg : wantK ops ks gd = some true) (hkb : ∀ w w' v, q w v → Below w.heap.size w w' → q w' v) (ho : ∀ W, Rl w0 W → leanOn ks W op.operands.toList (Goes P (.p q) ⟨some t, op, ty, pos, after, gd⟩ W) a0)
    (hr : ObsN P ops a0 w0 Rl J exs fin (i + 1) c (bif c == 0 then (t, .p q) :: nz else nz) ((t, kT) :: ks) rest) : ObsN P ops a0 w0 Rl J exs fin i c nz ks (⟨some t, op, ty, pos, after, gd⟩ :: rest) :=
  ⟨.p q, kT, t, rfl, ⟨hkb, .inr rfl, .inr fun _ _ _ _ _ => trivial⟩, .inl ⟨hx, hg, ho⟩, by rw [hx]; exact hr⟩
theorem ObsN.p {q : World → Value → Prop} (hx : exs.elem i = false) (hg : wantK ops ks gd = some true) (hkb : ∀ w w' v, q w v → Below w.heap.size w w' → q w' v) (hk : ∀ w w' v, q w v → Rl w w' → q w' v) (ho : ∀ W, Rl w0 W → leanOn ks W op.operands.toList (Goes P (.p q) ⟨some t, op, ty, pos, after, gd⟩ W) a0)
    (hr : ObsN P ops a0 w0 Rl J exs fin (i + 1) c (bif c == 0 then (t, .p q) :: nz else nz) ((t, .p q) :: ks) rest) : ObsN P ops a0 w0 Rl J exs fin i c nz ks (⟨some t, op, ty, pos, after, gd⟩ :: rest) :=
  ⟨.p q, .p q, t, rfl, ⟨hkb, .inl rfl, .inr hk⟩, .inl ⟨hx, hg, ho⟩, by rw [hx]; exact hr⟩
theorem ObsN.ev {x : Value} (hx : exs.elem i = true) (hg : wantK ops ks gd = some true) (ho : ∀ W, Rl w0 W → J c W → leanOn (nz ++ ks) W op.operands.toList (GoesN P (.v x) Rl (J (c + 1)) ⟨some t, op, ty, pos, after, gd⟩ W) a0)
    (hr : ObsN P ops a0 w0 Rl J exs fin (i + 1) (c + 1) [(t, .v x)] ((t, .v x) :: ks) rest) : ObsN P ops a0 w0 Rl J exs fin i c nz ks (⟨some t, op, ty, pos, after, gd⟩ :: rest) :=
  ⟨.v x, .v x, t, rfl, ⟨trivial, .inl rfl, .inr trivial⟩, .inr (.inl ⟨hx, hg, ho⟩), by rw [hx]; exact hr⟩
theorem ObsN.el {q : World → Value → Prop} (hx : exs.elem i = true) (hg : wantK ops ks gd = some true) (hl : lastX exs i = false) (hkb : ∀ w w' v, q w v → Below w.heap.size w w' → q w' v) (ho : ∀ W, Rl w0 W → J c W → leanOn (nz ++ ks) W op.operands.toList (GoesN P (.p q) Rl (J (c + 1)) ⟨some t, op, ty, pos, after, gd⟩ W) a0)
    (hr : ObsN P ops a0 w0 Rl J exs fin (i + 1) (c + 1) [(t, .p q)] ((t, kT) :: ks) rest) : ObsN P ops a0 w0 Rl J exs fin i c nz ks (⟨some t, op, ty, pos, after, gd⟩ :: rest) :=
  ⟨.p q, kT, t, rfl, ⟨hkb, .inr rfl, .inr fun _ _ _ _ _ => trivial⟩, .inr (.inl ⟨hx, hg, ho⟩), by rw [hx]; exact hr⟩
theorem ObsN.ep {q : World → Value → Prop} (hx : exs.elem i = true) (hg : wantK ops ks gd = some true) (hl : lastX exs i = true) (hkb : ∀ w w' v, q w v → Below w.heap.size w w' → q w' v) (ho : ∀ W, Rl w0 W → J c W → leanOn (nz ++ ks) W op.operands.toList (GoesN P (.p q) Rl (J (c + 1)) ⟨some t, op, ty, pos, after, gd⟩ W) a0)
    (hr : ObsN P ops a0 w0 Rl J exs fin (i + 1) (c + 1) [(t, .p q)] ((t, .p q) :: ks) rest) : ObsN P ops a0 w0 Rl J exs fin i c nz ks (⟨some t, op, ty, pos, after, gd⟩ :: rest) :=
  ⟨.p q, .p q, t, rfl, ⟨hkb, .inl rfl, .inl hl⟩, .inr (.inl ⟨hx, hg, ho⟩), by rw [hx]; exact hr⟩
theorem ObsN.skip (hx : exs.elem i = false) (hg : wantK ops ks gd = some false) (hr : ObsN P ops a0 w0 Rl J exs fin (i + 1) c (bif c == 0 then (t, .v undef) :: nz else nz) ((t, .v undef) :: ks) rest) : ObsN P ops a0 w0 Rl J exs fin i c nz ks (⟨some t, op, ty, pos, after, gd⟩ :: rest) :=
  ⟨.v undef, .v undef, t, rfl, ⟨trivial, .inl rfl, .inr trivial⟩, .inr (.inr ⟨hx, hg, rfl⟩), by rw [hx]; exact hr⟩
theorem ObsN.nil (h : fin ks) : ObsN P ops a0 w0 Rl J exs fin i c nz ks [] := h
end
theorem ObsN.out {P : Program} {ops : Array Oper} {a0 : Act} {w0 : World} {Rl : World → World → Prop} {J : Nat → World → Prop} {exs : List Nat} {fin : List (Tmp × Kd) → Prop} : ∀ {l : List Oper} {i0 : Nat} {nz ks : List (Tmp × Kd)}, ObsN P ops a0 w0 Rl J exs fin i0 (czX exs i0) nz ks l →
    ∃ Kt Ks : Nat → Kd, ∃ kn kz : Nat → List (Tmp × Kd), kz 0 = ks ∧ kn 0 = nz ∧ fin (kz l.length) ∧ ∀ i o, l[i]? = some o → ∃ t, o.dst = some t ∧ ((Kt i).Ok ∧ (Ks i = Kt i ∨ Ks i = kT) ∧ (lastX exs (i0 + i) = true ∨ (Ks i).OkN Rl)) ∧ Ob1N P ops a0 w0 Rl J (czX exs (i0 + i)) (exs.elem (i0 + i)) (kn i) (kz i) o (Kt i) ∧ kz (i + 1) = (t, Ks i) :: kz i ∧
      kn (i + 1) = (bif exs.elem (i0 + i) then [(t, Kt i)] else (bif czX exs (i0 + i) == 0 then (t, Kt i) :: kn i else kn i))
  | [], i0, nz, ks, h => ⟨fun _ => .v undef, fun _ => .v undef, fun _ => nz, fun _ => ks, rfl, rfl, h, fun i o ho => by simp at ho⟩
  | o :: rest, i0, nz, ks, ⟨K, K', t, hd, hk, hob, hr⟩ => by
    have hr' : ObsN P ops a0 w0 Rl J exs fin (i0 + 1) (czX exs (i0 + 1)) (bif exs.elem i0 then [(t, K)] else (bif czX exs i0 == 0 then (t, K) :: nz else nz)) ((t, K') :: ks) rest := hr
    obtain ⟨Kt, Ks, kn, kz, h0, hn0, hf, hall⟩ := ObsN.out hr'
    refine ⟨fun i => match i with | 0 => K | i + 1 => Kt i, fun i => match i with | 0 => K' | i + 1 => Ks i, fun i => match i with | 0 => nz | i + 1 => kn i, fun i => match i with | 0 => ks | i + 1 => kz i, rfl, rfl, hf, fun i o' ho' => ?_⟩
    cases i with
    | zero =>
      simp only [List.getElem?_cons_zero, Option.some.injEq] at ho'
      subst ho'
      exact ⟨t, hd, hk, hob, h0, hn0⟩
    | succ i =>
      have := hall i o' (by simpa using ho')
      rw [show i0 + 1 + i = i0 + (i + 1) from by omega] at this
      exact this
structure RInvN (ops : Array Oper) (a0 : Act) (w0 : World) (Kt Ks : Nat → Kd) (m : Nat) (Rl : World → World → Prop) (J : Nat → World → Prop) (exs : List Nat) (listed : Array Bool) (a : Act) (w : World) : Prop where
  lsize : listed.size = ops.size
  defers : a.defers = a0.defers
  size : a.tmps.size = a0.tmps.size
  ext : Rl w0 w
  cnt : ∃ c, c ≤ exs.length ∧ (∀ q, q < exs.length → listed.getD (exs.getD q 0) false = decide (q < c)) ∧ J c w ∧ ∀ j t, j < m → listed.getD j false = true → dstOf ops j = some t → (c = 0 ∨ (exs.elem j = true ∧ czX exs j + 1 = c)) → (Kt j).holds w (a.tmps.getD t undef)
  other : ∀ t, (∀ j, j < m → dstOf ops j ≠ some t) → a.tmps.getD t undef = a0.tmps.getD t undef
  val : ∀ j t, j < m → listed.getD j false = true → dstOf ops j = some t → (Ks j).holds w (a.tmps.getD t undef)
  down : ∀ i o, ops[i]? = some o → listed.getD i false = true → ∀ e ∈ o.after, Region.binds .any e = true → listed.getD e.on false = true
theorem lookK_app {a b : List (Tmp × Kd)} {s : Tmp} {K : Kd} (h : lookK (a ++ b) s = some K) : (s, K) ∈ a ∨ lookK b s = some K := by
  induction a with
  | nil => exact .inr h
  | cons x r ih =>
    obtain ⟨u, L⟩ := x
    simp only [List.cons_append, lookK] at h
    cases hb : Nat.beq u s with
    | true =>
      rw [hb] at h
      injection h with h
      subst h
      rw [Nat.eq_of_beq_eq_true hb]
      exact .inl List.mem_cons_self
    | false =>
      rw [hb] at h
      rcases ih h with h | h
      · exact .inl (List.mem_cons_of_mem _ h)
      · exact .inr h
theorem lookK_none_app {a b : List (Tmp × Kd)} {s : Tmp} (h : lookK (a ++ b) s = none) : lookK b s = none := by
  induction a with
  | nil => exact h
  | cons x r ih =>
    obtain ⟨u, L⟩ := x
    simp only [List.cons_append, lookK] at h
    cases hb : Nat.beq u s with
    | true => rw [hb] at h; cases h
    | false => rw [hb] at h; exact ih h
section
variable {P : Program} {Q : Exit → Act → World → Prop}
theorem regionN {id : Nat} {l : List Oper} {a : Act} {w : World} (m : Nat) (exs : List Nat) (Rl : World → World → Prop) (J : Nat → World → Prop) (hm : P.follows .mixedOrders = true) (hchk : regB l.toArray m a.tmps.size = true) (hex : exB l.toArray m exs = true)
    (hR0 : ∀ a b, Below a.heap.size a b → Rl a b) (hRt : ∀ a b c, Rl a b → Rl b c → Rl a c) (hJ0 : J 0 w) (hJs : ∀ c W W', J c W → Below W.heap.size W W' → J c W')
    (hobs : ObsN P l.toArray a w Rl J exs (fun ks => ∀ W, Rl w W → J exs.length W → finOn W ks (fun a' => wpList P l.toArray Q (l.drop m) a' W) a) 0 0 [] [] (l.take m)) :
    (Code.region id l.toArray true).wp P Q a w := by
  have R := regB_out hchk
  obtain ⟨ops, hops⟩ : ∃ ops, l.toArray = ops := ⟨_, rfl⟩
  have hl' : l = ops.toList := by rw [← hops]
  rw [hops] at hobs R hex ⊢
  rw [hl'] at hobs
  clear hops hl' hchk
  have hex' : ∀ q, q < exs.length → exs.getD q 0 < m ∧ czX exs (exs.getD q 0) = q ∧ (q = 0 ∨ ∃ o, ops[exs.getD q 0]? = some o ∧ hasOn o (exs.getD (q - 1) 0) = true) := by
    intro q hq
    have h := (List.all_eq_true.1 hex) q (List.mem_range.2 hq)
    simp only [Bool.and_eq_true, decide_eq_true_eq, beq_iff_eq, Bool.or_eq_true] at h
    refine ⟨h.1.1, h.1.2, h.2.imp (fun h => h) fun h2 => ?_⟩
    cases ho : ops[exs.getD q 0]? with
    | none => rw [ho] at h2; cases h2
    | some o => rw [ho] at h2; exact ⟨o, rfl, h2⟩
  have hidx : ∀ i, exs.elem i = true → ∃ q, q < exs.length ∧ exs.getD q 0 = i := by
    intro i hi
    obtain ⟨q, hq, e⟩ := List.mem_iff_getElem.1 (List.elem_iff.1 hi)
    exact ⟨q, hq, by rw [List.getD_eq_getElem?_getD, List.getElem?_eq_getElem hq]; exact e⟩
  have hmemE : ∀ q, q < exs.length → exs.elem (exs.getD q 0) = true := by
    intro q hq
    rw [List.elem_iff, List.getD_eq_getElem?_getD, List.getElem?_eq_getElem hq]
    exact List.getElem_mem hq
  obtain ⟨Kt, Ks, kn, kz, hz0, hn0, hfin, hall⟩ := ObsN.out (i0 := 0) hobs
  simp only [Nat.zero_add] at hall
  have hmlen : (ops.toList.take m).length = m := by simp [R.le]
  rw [hmlen] at hfin
  have hat : ∀ i o, i < m → ops[i]? = some o → (ops.toList.take m)[i]? = some o := fun i o hi ho => by
    rw [List.getElem?_take, if_pos hi]; simpa using ho
  have hta : ∀ i o, (ops.toList.take m)[i]? = some o → i < m ∧ ops[i]? = some o := fun i o ho => by
    rw [List.getElem?_take] at ho
    split at ho
    · exact ⟨‹_›, by simpa using ho⟩
    · cases ho
  have hall2 : ∀ i o, (ops.toList.take m)[i]? = some o → ∃ t, o.dst = some t ∧ kz (i + 1) = (t, Ks i) :: kz i := fun i o ho => by
    obtain ⟨t, h1, _, _, h2, _⟩ := hall i o ho
    exact ⟨t, h1, h2⟩
  have hmem : ∀ i, i ≤ m → ∀ t K, (t, K) ∈ kz i → ∃ j, j < i ∧ dstOf ops j = some t ∧ K = Ks j := fun i hi t K hm => by
    obtain ⟨j, o, h1, h2, h3, h4⟩ := kz_mem hz0 hall2 i (by omega) t K hm
    obtain ⟨_, ho⟩ := hta j o h2
    exact ⟨j, h1, by unfold dstOf; rw [ho]; exact h3, h4⟩
  refine wp_region_any hm ?_
  have hd : ∀ i o, ops[i]? = some o → dstOf ops i = o.dst := fun i o ho => by unfold dstOf; rw [ho]; rfl
  have hend : ∀ (listed : Array Bool) (a' : Act) (w' : World), RInvN ops a w Kt Ks m Rl J exs listed a' w' → (∀ j, j < m → listed.getD j false = true) → wpList P ops Q (ops.toList.drop m) a' w' := by
    intro listed a' w' hI hlst
    have HJX : J exs.length w' := by
      obtain ⟨c, hc, hq, hj, -⟩ := hI.cnt
      have : c = exs.length := by
        rcases Nat.lt_or_ge c exs.length with hlt | hge
        · have h1 := hq c hlt
          rw [hlst _ (hex' c hlt).1] at h1
          simp at h1
        · omega
      rw [← this]; exact hj
    obtain ⟨b, hb, e1, e2, e3, e4⟩ := finOn.out (a' := a') (hfin w' hI.ext HJX) hI.size.symm (fun t K hm => by
      obtain ⟨j, hj, hdj, rfl⟩ := hmem m (Nat.le_refl _) t K hm
      obtain ⟨o, ho, hod⟩ := dstOf_some hdj
      obtain ⟨s, hs, hsn, _⟩ := R.main j o hj ho
      rw [hod] at hs
      injection hs with hs
      subst hs
      exact ⟨by rw [hI.size]; exact hsn, hI.val j t hj (hlst j hj) hdj⟩)
    have : b = a' := by
      cases b with
      | mk bt bd =>
        cases a' with
        | mk at' ad =>
          simp only at e1 e2 e3 e4
          have hdf : bd = ad := by rw [e2]; exact hI.defers.symm
          have htm : bt = at' := by
            apply Array.ext
            · rw [e1]; exact hI.size.symm
            · intro t t1 t2
              have : bt.getD t undef = at'.getD t undef := by
                by_cases hx : ∃ K, (t, K) ∈ kz m
                · exact e4 t hx
                · rw [e3 t (fun K hm => hx ⟨K, hm⟩)]
                  refine (hI.other t fun j hj hdj => hx ?_).symm
                  obtain ⟨o, ho, hod⟩ := dstOf_some hdj
                  exact ⟨Ks j, kz_all hall2 m (by omega) j o t hj (hat j o hj ho) hod⟩
              simpa only [Array.getD_eq_getD_getElem?, Array.getElem?_eq_getElem t1, Array.getElem?_eq_getElem t2, Option.getD_some] using this
          subst hdf htm
          rfl
    rw [this] at hb
    exact hb
  have key : ∀ (fuel : Nat) (listed : Array Bool) (a' : Act) (w' : World), RInvN ops a w Kt Ks m Rl J exs listed a' w' → (∀ i, m ≤ i → i < ops.size → listed.getD i false = false) →
      ((List.range ops.size).filter fun i => !listed.getD i true).length ≤ fuel → wpAny P .any ops Q fuel listed a' w' := by
    intro fuel
    have hprefix : ∀ (listed : Array Bool), listed.size = ops.size → (∀ j, j < m → listed.getD j false = true) → (∀ i, m ≤ i → i < ops.size → listed.getD i false = false) → ∀ i, i < ops.size → listed.getD i false = decide (i < m) := by
      intro listed hs h1 h2 i hi
      by_cases e : i < m
      · rw [h1 i e]; simp [e]
      · rw [h2 i (by omega) hi]; simp [e]
    induction fuel with
    | zero =>
      intro listed a' w' hI hno hc
      have h0 : ((List.range ops.size).filter fun i => !listed.getD i true) = [] := List.eq_nil_of_length_eq_zero (by omega)
      have hal : ∀ i, i < ops.size → listed.getD i false = true := by
        intro i hi
        rw [List.filter_eq_nil_iff] at h0
        have := h0 i (List.mem_range.2 hi)
        rw [← getD_ff (by rw [hI.lsize]; exact hi)]
        simpa using this
      have hms : m = ops.size := by
        rcases Nat.lt_or_ge m ops.size with hlt | hge
        · have := hno m (Nat.le_refl _) hlt
          rw [hal m hlt] at this
          cases this
        · have := R.le; omega
      have := hend listed a' w' hI (fun j hj => hal j (by omega))
      rw [hms] at this
      have hdr : ops.toList.drop ops.size = [] := by simp
      rw [hdr] at this
      refine ⟨?_, this⟩
      unfold Region.ready
      rw [List.filter_eq_nil_iff] at h0 ⊢
      intro i hi
      have := h0 i hi
      simp only [Bool.not_eq_true] at this ⊢
      rw [this]
      rfl
    | succ fuel ih =>
      intro listed a' w' hI hno hc
      by_cases hdone : ∀ j, j < m → listed.getD j false = true
      · refine tail_any R (fuel + 1) m listed a' w' (Nat.le_refl _) R.le hI.lsize (hprefix listed hI.lsize hdone hno) ?_ (hend listed a' w' hI hdone)
        have hlen : ops.size - m ≤ ((List.range ops.size).filter fun i => !listed.getD i true).length := by
          have hsub : (List.range ops.size).filter (fun i => decide (m ≤ i)) = (List.range ops.size).filter fun i => !listed.getD i true := by
            apply List.filter_congr
            intro i hi
            have hi := List.mem_range.1 hi
            rw [getD_ff (by rw [hI.lsize]; exact hi), hprefix listed hI.lsize hdone hno i hi]
            by_cases e : i < m <;> simp [e] <;> omega
          rw [← hsub]
          have : ∀ N, m ≤ N → ((List.range N).filter fun i => decide (m ≤ i)).length = N - m := by
            intro N hN
            induction N with
            | zero => simp
            | succ N ihN =>
              rw [List.range_succ, List.filter_append, List.length_append]
              by_cases e : m ≤ N
              · rw [ihN e]; simp [e]; omega
              · have : m = N + 1 := by omega
                subst this
                have : (List.range N).filter (fun i => decide (N + 1 ≤ i)) = [] := by
                  rw [List.filter_eq_nil_iff]
                  intro i hi
                  have := List.mem_range.1 hi
                  simp; omega
                rw [this]
                simp
          rw [this _ R.le]
          exact Nat.le_refl _
        omega
      · refine ⟨fun hr => ?_, fun i hi => ?_⟩
        · exfalso
          refine hdone ?_
          intro j
          induction j using Nat.strongRecOn with
          | _ j ihj =>
            intro hj
            cases hlj : listed.getD j false with
            | true => rfl
            | false =>
              exfalso
              have hjs : j < ops.size := by have := R.le; omega
              have hmem : j ∈ Region.ready .any ops listed := by
                rw [mem_ready]
                refine ⟨by rw [getD_ff (by rw [hI.lsize]; exact hjs)]; exact hlj, ops[j], Array.getElem?_eq_getElem hjs, fun e he hb => ?_⟩
                have := R.down j _ (Array.getElem?_eq_getElem hjs) e he hb
                exact ihj _ this (by omega)
              rw [hr] at hmem
              cases hmem
        · have hi0 := hi
          rw [mem_ready] at hi
          obtain ⟨hnl', o, ho, haf⟩ := hi
          have his : i < ops.size := (Array.getElem?_eq_some_iff.1 ho).1
          have hsi : i < listed.size := by rw [hI.lsize]; exact his
          have him : i < m := by
            rcases Nat.lt_or_ge i m with hlt | hge
            · exact hlt
            · exact absurd (fun j hj => all_before R hI.down hge ho haf (i - j - 1) j (by omega)) hdone
          obtain ⟨t, ht, htn, hne, hsel, hrd, hgd⟩ := R.main i o him ho
          obtain ⟨t', ht', hok, hob, hkz, hkn⟩ := hall i o (hat i o him ho)
          have hon : ∀ j, hasOn o j = true → listed.getD j false = true := fun j hj => by
            obtain ⟨e, he, heo, heb⟩ := hasOn_mem hj
            rw [← heo]
            exact haf e he heb
          have hweak : ∀ w'' v, (Kt i).holds w'' v → (Ks i).holds w'' v := fun w'' v h => by
            rcases hok.2.1 with e | e
            · rw [e]; exact h
            · rw [e]; exact trivial
          have hnext : ∀ v w'', (Kt i).holds w'' v → Rl w' w'' → (∀ j, j < m → listed.getD j false = true → ∀ u, (Ks j).holds w' u → (Ks j).holds w'' u) → (∃ c, c ≤ exs.length ∧ (∀ q, q < exs.length → (listed.setIfInBounds i true).getD (exs.getD q 0) false = decide (q < c)) ∧ J c w'' ∧ ∀ j t, j < m → (listed.setIfInBounds i true).getD j false = true → dstOf ops j = some t → (c = 0 ∨ (exs.elem j = true ∧ czX exs j + 1 = c)) → (Kt j).holds w'' ((a'.put o.dst v).tmps.getD t undef)) → wpAny P .any ops Q fuel (listed.setIfInBounds i true) (a'.put o.dst v) w'' := by
            intro v w'' hv hb hkeep hcn
            refine ih _ _ _ ⟨by simpa using hI.lsize, ?_, ?_, hRt _ _ _ hI.ext hb, hcn, ?_, ?_, ?_⟩ ?_ ?_
            · rw [ht]; exact hI.defers
            · rw [ht]; simpa [Act.put] using hI.size
            · intro s hs
              have hst : s ≠ t := fun e => hs i him (by rw [hd i _ ho, ht, e])
              rw [ht, put_getD (by rw [hI.size]; exact htn), if_neg hst]
              exact hI.other s hs
            · intro j s hjm hj hdj
              rw [getD_set hsi] at hj
              rw [ht, put_getD (by rw [hI.size]; exact htn)]
              by_cases e : j = i
              · subst e
                have : s = t := by rw [hd j _ ho, ht] at hdj; injection hdj with hdj; exact hdj.symm
                rw [if_pos this]
                exact hweak _ _ hv
              · rw [if_neg e] at hj
                have hst : s ≠ t := fun e2 => e (dst_inj R hjm him hdj (by rw [hd i _ ho, ht, e2]))
                rw [if_neg hst]
                exact hkeep j hjm hj _ (hI.val j s hjm hj hdj)
            · intro q oq hq hlq e he hb
              rw [getD_set hsi] at hlq ⊢
              by_cases e1 : q = i
              · subst e1
                rw [ho] at hq
                injection hq with hq
                subst hq
                split
                · rfl
                · exact haf e he hb
              · rw [if_neg e1] at hlq
                split
                · rfl
                · exact hI.down q oq hq hlq e he hb
            · intro q hq hqs
              rw [getD_set hsi, if_neg (by omega)]
              exact hno q hq hqs
            · have hnl : (!listed.getD i true) = true := by rw [hnl']; rfl
              have hlt : ((List.range ops.size).filter fun k => !(listed.setIfInBounds i true).getD k true).length < ((List.range ops.size).filter fun k => !listed.getD k true).length := by
                have hsub : ((List.range ops.size).filter fun k => !(listed.setIfInBounds i true).getD k true) = (((List.range ops.size).filter fun k => !listed.getD k true).filter fun k => k != i) := by
                  rw [List.filter_filter]
                  apply List.filter_congr
                  intro k _
                  rw [getD_set hsi]
                  by_cases e : k = i
                  · subst e; simp
                  · simp [e]
                rw [hsub]
                exact List.length_filter_lt_length_iff_exists.2 ⟨i, List.mem_filter.2 ⟨List.mem_range.2 his, hnl⟩, by simp⟩
              omega
          have hlook : ∀ s K, lookK (kz i) s = some K → ∃ j, j < i ∧ dstOf ops j = some s ∧ K = Ks j := fun s K hK => hmem i (by omega) s K (lookK_some hK)
          have hokj : ∀ j, j < m → (Kt j).Ok ∧ (Ks j = Kt j ∨ Ks j = kT) ∧ (lastX exs j = true ∨ (Ks j).OkN Rl) := by
            intro j hj
            have hjs : j < ops.size := by have := R.le; omega
            obtain ⟨_, _, h1, _⟩ := hall j ops[j] (hat j _ hj (Array.getElem?_eq_getElem hjs))
            exact h1
          have hkN : ∀ w'', Below w'.heap.size w' w'' → ∀ j, j < m → listed.getD j false = true → ∀ u, (Ks j).holds w' u → (Ks j).holds w'' u := fun w'' hB j hj _ u hu => by
            rcases (hokj j hj).2.1 with e | e
            · rw [e] at hu ⊢; exact Kd.keep (hokj j hj).1 hu hB
            · rw [e]; exact trivial
          have hcntN : exs.elem i = false → ∀ v w'', (Kt i).holds w'' v → Below w'.heap.size w' w'' → ∃ c, c ≤ exs.length ∧ (∀ q, q < exs.length → (listed.setIfInBounds i true).getD (exs.getD q 0) false = decide (q < c)) ∧ J c w'' ∧ ∀ j t, j < m → (listed.setIfInBounds i true).getD j false = true → dstOf ops j = some t → (c = 0 ∨ (exs.elem j = true ∧ czX exs j + 1 = c)) → (Kt j).holds w'' ((a'.put o.dst v).tmps.getD t undef) := by
            intro hx v w'' hv hB
            obtain ⟨c, hc, hq, hj, hnear⟩ := hI.cnt
            refine ⟨c, hc, fun q hql => ?_, hJs c _ _ hj hB, fun j s hjm hjl hdj hcj => ?_⟩
            · rw [getD_set hsi, if_neg (fun e => by have h1 := hmemE q hql; rw [e, hx] at h1; cases h1)]
              exact hq q hql
            · rw [getD_set hsi] at hjl
              rw [ht, put_getD (by rw [hI.size]; exact htn)]
              by_cases e : j = i
              · subst e
                have : s = t := by rw [hd j _ ho, ht] at hdj; injection hdj with hdj; exact hdj.symm
                rw [if_pos this]
                exact hv
              · rw [if_neg e] at hjl
                have hst : s ≠ t := fun e2 => e (dst_inj R hjm him hdj (by rw [hd i _ ho, ht, e2]))
                rw [if_neg hst]
                exact Kd.keep (hokj j hjm).1 (hnear j s hjm hjl hdj hcj) hB
          have hknm : ∀ i, i ≤ m → ∀ s K, (s, K) ∈ kn i → ∃ j, j < i ∧ dstOf ops j = some s ∧ K = Kt j ∧ (czX exs i = 0 ∨ (exs.elem j = true ∧ czX exs j + 1 = czX exs i)) := by
            intro i
            induction i with
            | zero => intro _ s K hm0; rw [hn0] at hm0; cases hm0
            | succ i ihn =>
              intro hi1 s K hm1
              have his1 : i < ops.size := by have := R.le; omega
              have hoi : ops[i]? = some ops[i] := Array.getElem?_eq_getElem his1
              obtain ⟨ti, hti, -, -, -, hkni⟩ := hall i _ (hat i _ (by omega) hoi)
              rw [hkni] at hm1
              have hdi : dstOf ops i = some ti := by rw [hd i _ hoi]; exact hti
              cases hx : exs.elem i with
              | true =>
                rw [hx] at hm1
                simp only [cond_true, List.mem_singleton, Prod.mk.injEq] at hm1
                obtain ⟨rfl, rfl⟩ := hm1
                exact ⟨i, by omega, hdi, rfl, .inr ⟨hx, by show czX exs i + 1 = (bif exs.elem i then czX exs i + 1 else czX exs i); rw [hx]; rfl⟩⟩
              | false =>
                have hcz : czX exs (i + 1) = czX exs i := by show (bif exs.elem i then czX exs i + 1 else czX exs i) = _; rw [hx]; rfl
                rw [hx] at hm1
                simp only [cond_false] at hm1
                rw [hcz]
                cases h0 : (czX exs i == 0) with
                | true =>
                  rw [h0] at hm1
                  simp only [cond_true] at hm1
                  rcases List.mem_cons.1 hm1 with e | e
                  · simp only [Prod.mk.injEq] at e
                    obtain ⟨rfl, rfl⟩ := e
                    exact ⟨i, by omega, hdi, rfl, .inl (by simpa using h0)⟩
                  · obtain ⟨j, a1, a2, a3, a4⟩ := ihn (by omega) s K e
                    exact ⟨j, by omega, a2, a3, a4⟩
                | false =>
                  rw [h0] at hm1
                  simp only [cond_false] at hm1
                  obtain ⟨j, a1, a2, a3, a4⟩ := ihn (by omega) s K hm1
                  exact ⟨j, by omega, a2, a3, a4⟩
          unfold wpOp
          rw [ho]
          rcases hob with ⟨hxx, hwk, hgo⟩ | ⟨hxx, hwk, hgo⟩ | ⟨hxx, hwk, hskip⟩
          · have hw : Region.wanted o (yielded ops a'.tmps) = true := by
              unfold Region.wanted
              cases hg : o.guard with
              | none => rfl
              | some gb =>
                obtain ⟨g, b⟩ := gb
                rw [hg] at hwk
                unfold wantK at hwk
                simp only at hwk
                cases hdg : dstOf ops g with
                | none => rw [hdg] at hwk; cases hwk
                | some s =>
                  rw [hdg] at hwk
                  cases hlk : lookK (kz i) s with
                  | none => simp only [hlk] at hwk; cases hwk
                  | some K =>
                    simp only [hlk] at hwk
                    split at hwk
                    · rename_i hKe
                      injection hKe with hKe
                      subst hKe
                      rename_i c
                      obtain ⟨j, hj, hdj, hKj⟩ := hlook s _ hlk
                      obtain ⟨hong, hgi⟩ := hgd g b hg
                      obtain rfl := dst_inj R (by omega) (by omega) hdj hdg
                      have hv := hI.val j s (by omega) (hon j hong) hdj
                      rw [← hKj] at hv
                      have hy : yielded ops a'.tmps j = some c := by
                        have hv' : a'.tmps.getD s undef = .bool c := hv
                        unfold yielded
                        unfold dstOf at hdj
                        rw [hdj]
                        rw [Array.getD_eq_getD_getElem?] at hv'
                        cases hx : a'.tmps[s]? with
                        | none => rw [hx] at hv'; exact absurd hv' (by simp [undef])
                        | some x =>
                          rw [hx] at hv'
                          simp only [Option.getD_some] at hv'
                          subst hv'
                          simp [hx]
                      simp only [hy]
                      injection hwk
                    · cases hwk
            simp only [hw, if_true]
            refine .inl ?_
            obtain ⟨b, hb, b1, b2, b3, b4⟩ := leanOn.out (a' := a') (hgo w' hI.ext) hI.size.symm (fun s K hs hK => by
              obtain ⟨j, hj, hdj, rfl⟩ := hlook s K hK
              obtain ⟨o2, ho2, hod2⟩ := dstOf_some hdj
              obtain ⟨s2, hs2, hsn, _⟩ := R.main j o2 (by omega) ho2
              rw [hod2] at hs2
              injection hs2 with hs2
              subst hs2
              obtain ⟨ha, _⟩ := hrd s (by simpa using hs) j (by omega) hdj
              exact ⟨by rw [hI.size]; exact hsn, hI.val j s (by omega) (hon j ha) hdj⟩)
            have heq : execOp a'.eval o = execOp b.eval o := by
              refine execOp_congr o (fun cs bb hc => by rw [hc] at hsel; cases hsel) fun x hx => ?_
              cases x with
              | tmp s =>
                show a'.tmps.getD s undef = b.tmps.getD s undef
                by_cases hks : ∃ K, lookK (kz i) s = some K
                · obtain ⟨K, hK⟩ := hks
                  exact (b4 s ⟨K, hK, by simpa using hx⟩).symm
                · have ho2 : ∀ j, j < m → dstOf ops j ≠ some s := by
                    intro j hj hdj
                    obtain ⟨_, hji⟩ := hrd s hx j hj hdj
                    obtain ⟨oj, hoj, hdoj⟩ := dstOf_some hdj
                    have := kz_all hall2 i (by omega) j oj s hji (hat j oj hj hoj) hdoj
                    cases hl : lookK (kz i) s with
                    | some K => exact hks ⟨K, hl⟩
                    | none => exact lookK_none hl _ this
                  have e0 := hI.other s ho2
                  rcases b3 s with e | e
                  · rw [e, e0]
                  · exact e.symm
              | const _ => rfl
              | global _ => rfl
              | func _ => rfl
            have hgoes := hb.out
            unfold Oper.wp
            rw [heq]
            generalize (execOp b.eval o).run P w' = r at hgoes
            cases r with
            | ok n w'' =>
              cases n <;> simp only [OpGoes] at hgoes <;> try exact hgoes.elim
              case value v => exact hnext v w'' hgoes.1 (hR0 _ _ hgoes.2) (hkN _ hgoes.2) (hcntN hxx _ _ hgoes.1 hgoes.2)
              case enter f args =>
                refine Calls.mono hgoes ?_
                rintro e w3 ⟨v, rfl, hv, hb⟩
                exact hnext v w3 hv (hR0 _ _ hb) (hkN _ hb) (hcntN hxx _ _ hv hb)
            | halt x w'' => exact hgoes.elim
          · obtain ⟨q, hql, hqe⟩ := hidx i hxx
            obtain ⟨c, hc, hqs, hj, hnear⟩ := hI.cnt
            obtain ⟨hq1, hq2, hq3⟩ := hex' q hql
            have hqc : q = c := by
              have h1 := hqs q hql
              rw [hqe, ← getD_ff hsi, hnl'] at h1
              have h2 : ¬ q < c := by simpa using h1.symm
              rcases hq3 with h3 | ⟨o3, ho3, hh3⟩
              · omega
              · rw [hqe, ho] at ho3
                injection ho3 with ho3
                subst ho3
                have h4 := hon _ hh3
                by_cases h0 : q = 0
                · omega
                · rw [hqs (q - 1) (by omega)] at h4
                  have : q - 1 < c := by simpa using h4
                  omega
            rw [hqe] at hq2
            rw [hq2, hqc] at hgo
            have hkE : ∀ w'', Rl w' w'' → ∀ j, j < m → listed.getD j false = true → ∀ u, (Ks j).holds w' u → (Ks j).holds w'' u := by
              intro w'' hE j hjm hjl u hu
              rcases (hokj j hjm).2.2 with h1 | h1
              · exfalso
                have hlast : j = exs.getD (exs.length - 1) 0 := by
                  unfold lastX at h1
                  rw [List.getLast?_eq_getElem?, List.getElem?_eq_getElem (by omega)] at h1
                  rw [List.getD_eq_getElem?_getD, List.getElem?_eq_getElem (by omega)]
                  simp only [beq_iff_eq] at h1
                  exact h1.symm
                rw [hlast, hqs _ (by omega)] at hjl
                have : exs.length - 1 < c := by simpa using hjl
                omega
              · exact Kd.keepN h1 hu hE
            have hcntE : ∀ v w'', (Kt i).holds w'' v → J (c + 1) w'' → ∃ c, c ≤ exs.length ∧ (∀ q, q < exs.length → (listed.setIfInBounds i true).getD (exs.getD q 0) false = decide (q < c)) ∧ J c w'' ∧ ∀ j t, j < m → (listed.setIfInBounds i true).getD j false = true → dstOf ops j = some t → (c = 0 ∨ (exs.elem j = true ∧ czX exs j + 1 = c)) → (Kt j).holds w'' ((a'.put o.dst v).tmps.getD t undef) := by
              intro v w'' hv hj2
              refine ⟨c + 1, by omega, fun p hp => ?_, hj2, fun j s hjm hjl hdj hcj => ?_⟩
              rotate_left
              · rcases hcj with hcj | ⟨hx2, hcj⟩
                · omega
                · obtain ⟨q2, hq2l, hq2e⟩ := hidx j hx2
                  have h3 := (hex' q2 hq2l).2.1
                  rw [hq2e] at h3
                  have h4 : q2 = q := by omega
                  have h5 : j = i := by rw [← hq2e, h4, hqe]
                  subst h5
                  have : s = t := by rw [hd j _ ho, ht] at hdj; injection hdj with hdj; exact hdj.symm
                  rw [ht, put_getD (by rw [hI.size]; exact htn), if_pos this]
                  exact hv
              rw [getD_set hsi]
              by_cases e : exs.getD p 0 = i
              · have hp2 := (hex' p hp).2.1
                rw [e, hq2] at hp2
                rw [if_pos e]
                have : p < c + 1 := by omega
                simp [this]
              · rw [if_neg e, hqs p hp]
                have hpq : p ≠ q := fun h => e (by rw [h]; exact hqe)
                by_cases hpc : p < c
                · simp [hpc, Nat.lt_succ_of_lt hpc]
                · have : ¬ p < c + 1 := by omega
                  simp [hpc, this]
            have hw : Region.wanted o (yielded ops a'.tmps) = true := by
              unfold Region.wanted
              cases hg : o.guard with
              | none => rfl
              | some gb =>
                obtain ⟨g, b⟩ := gb
                rw [hg] at hwk
                unfold wantK at hwk
                simp only at hwk
                cases hdg : dstOf ops g with
                | none => rw [hdg] at hwk; cases hwk
                | some s =>
                  rw [hdg] at hwk
                  cases hlk : lookK (kz i) s with
                  | none => simp only [hlk] at hwk; cases hwk
                  | some K =>
                    simp only [hlk] at hwk
                    split at hwk
                    · rename_i hKe
                      injection hKe with hKe
                      subst hKe
                      rename_i c
                      obtain ⟨j, hj, hdj, hKj⟩ := hlook s _ hlk
                      obtain ⟨hong, hgi⟩ := hgd g b hg
                      obtain rfl := dst_inj R (by omega) (by omega) hdj hdg
                      have hv := hI.val j s (by omega) (hon j hong) hdj
                      rw [← hKj] at hv
                      have hy : yielded ops a'.tmps j = some c := by
                        have hv' : a'.tmps.getD s undef = .bool c := hv
                        unfold yielded
                        unfold dstOf at hdj
                        rw [hdj]
                        rw [Array.getD_eq_getD_getElem?] at hv'
                        cases hx : a'.tmps[s]? with
                        | none => rw [hx] at hv'; exact absurd hv' (by simp [undef])
                        | some x =>
                          rw [hx] at hv'
                          simp only [Option.getD_some] at hv'
                          subst hv'
                          simp [hx]
                      simp only [hy]
                      injection hwk
                    · cases hwk
            simp only [hw, if_true]
            refine .inl ?_
            obtain ⟨b, hb, b1, b2, b3, b4⟩ := leanOn.out (a' := a') (hgo w' hI.ext hj) hI.size.symm (fun s K hs hK => by
              have hex3 : ∃ j, j < i ∧ dstOf ops j = some s ∧ (listed.getD j false = true → K.holds w' (a'.tmps.getD s undef)) := by
                rcases lookK_app hK with h | h
                · obtain ⟨j, a1, a2, rfl, a4⟩ := hknm i (by omega) s K h
                  exact ⟨j, a1, a2, fun hl => hnear j s (by omega) hl a2 (by rw [hq2] at a4; rw [← hqc]; exact a4)⟩
                · obtain ⟨j, a1, a2, rfl⟩ := hlook s K h
                  exact ⟨j, a1, a2, fun hl => hI.val j s (by omega) hl a2⟩
              obtain ⟨j, hj, hdj, hval⟩ := hex3
              obtain ⟨o2, ho2, hod2⟩ := dstOf_some hdj
              obtain ⟨s2, hs2, hsn, _⟩ := R.main j o2 (by omega) ho2
              rw [hod2] at hs2
              injection hs2 with hs2
              subst hs2
              obtain ⟨ha, _⟩ := hrd s (by simpa using hs) j (by omega) hdj
              exact ⟨by rw [hI.size]; exact hsn, hval (hon j ha)⟩)
            have heq : execOp a'.eval o = execOp b.eval o := by
              refine execOp_congr o (fun cs bb hc => by rw [hc] at hsel; cases hsel) fun x hx => ?_
              cases x with
              | tmp s =>
                show a'.tmps.getD s undef = b.tmps.getD s undef
                by_cases hks : ∃ K, lookK (kn i ++ kz i) s = some K
                · obtain ⟨K, hK⟩ := hks
                  exact (b4 s ⟨K, hK, by simpa using hx⟩).symm
                · have ho2 : ∀ j, j < m → dstOf ops j ≠ some s := by
                    intro j hj hdj
                    obtain ⟨_, hji⟩ := hrd s hx j hj hdj
                    obtain ⟨oj, hoj, hdoj⟩ := dstOf_some hdj
                    have := kz_all hall2 i (by omega) j oj s hji (hat j oj hj hoj) hdoj
                    cases hl : lookK (kn i ++ kz i) s with
                    | some K => exact hks ⟨K, hl⟩
                    | none => exact lookK_none (lookK_none_app hl) _ this
                  have e0 := hI.other s ho2
                  rcases b3 s with e | e
                  · rw [e, e0]
                  · exact e.symm
              | const _ => rfl
              | global _ => rfl
              | func _ => rfl
            have hgoes := hb.out
            unfold Oper.wp
            rw [heq]
            generalize (execOp b.eval o).run P w' = r at hgoes
            cases r with
            | ok n w'' =>
              cases n <;> simp only [OpGoes] at hgoes <;> try exact hgoes.elim
              case value v => exact hnext v w'' hgoes.1 hgoes.2.1 (hkE _ hgoes.2.1) (hcntE _ _ hgoes.1 hgoes.2.2)
              case enter f args =>
                refine Calls.mono hgoes ?_
                rintro e w3 ⟨v, rfl, hv, hb, hj3⟩
                exact hnext v w3 hv hb (hkE _ hb) (hcntE _ _ hv hj3)
            | halt x w'' => exact hgoes.elim
          · have hw : Region.wanted o (yielded ops a'.tmps) = false := by
              unfold Region.wanted
              cases hg : o.guard with
              | none => rw [hg] at hwk; cases hwk
              | some gb =>
                obtain ⟨g, b⟩ := gb
                rw [hg] at hwk
                unfold wantK at hwk
                simp only at hwk
                cases hdg : dstOf ops g with
                | none => rw [hdg] at hwk; cases hwk
                | some s =>
                  rw [hdg] at hwk
                  cases hlk : lookK (kz i) s with
                  | none => simp only [hlk] at hwk; cases hwk
                  | some K =>
                    simp only [hlk] at hwk
                    split at hwk
                    · rename_i hKe
                      injection hKe with hKe
                      subst hKe
                      rename_i c
                      obtain ⟨j, hj, hdj, hKj⟩ := hlook s _ hlk
                      obtain ⟨hong, hgi⟩ := hgd g b hg
                      obtain rfl := dst_inj R (by omega) (by omega) hdj hdg
                      have hv := hI.val j s (by omega) (hon j hong) hdj
                      rw [← hKj] at hv
                      have hy : yielded ops a'.tmps j = some c := by
                        have hv' : a'.tmps.getD s undef = .bool c := hv
                        unfold yielded
                        unfold dstOf at hdj
                        rw [hdj]
                        rw [Array.getD_eq_getD_getElem?] at hv'
                        cases hx : a'.tmps[s]? with
                        | none => rw [hx] at hv'; exact absurd hv' (by simp [undef])
                        | some x =>
                          rw [hx] at hv'
                          simp only [Option.getD_some] at hv'
                          subst hv'
                          simp [hx]
                      simp only [hy]
                      injection hwk
                    · cases hwk
            simp only [hw]
            exact hnext _ _ (by rw [hskip]; rfl) (hR0 _ _ (Below.refl _ _)) (hkN _ (Below.refl _ _)) (hcntN hxx _ _ (by rw [hskip]; rfl) (Below.refl _ _))
  refine key ops.size _ a _ ⟨by simp, rfl, rfl, hR0 _ _ (Below.drew (Below.refl _ _)), ⟨0, Nat.zero_le _, fun q _ => by simp [Array.getD_eq_getD_getElem?, Array.getElem?_replicate]; split <;> simp, hJs 0 _ _ hJ0 (Below.drew (Below.refl _ _)), fun j t _ hj => by
    exfalso
    revert hj
    simp only [Array.getD_eq_getD_getElem?, Array.getElem?_replicate]
    split <;> simp⟩, fun _ _ => rfl, fun j t _ hj => ?_, fun i o _ hj => ?_⟩ ?_ ?_
  · exfalso
    revert hj
    simp only [Array.getD_eq_getD_getElem?, Array.getElem?_replicate]
    split <;> simp
  · exfalso
    revert hj
    simp only [Array.getD_eq_getD_getElem?, Array.getElem?_replicate]
    split <;> simp
  · intro i _ hi
    simp [Array.getD_eq_getD_getElem?, Array.getElem?_replicate, hi]
  · exact Nat.le_trans (List.length_filter_le _ _) (by simp)
end
structure KeepR (B : Nat) (W W' : World) : Prop where
  below : Below (min B W.heap.size) W W'
  ty : ∀ k cs t, t ≠ 5 → Blk W k cs t → Blk W' k cs t
theorem KeepR.of (B : Nat) : ∀ a b, Below a.heap.size a b → KeepR B a b := fun a b h => ⟨h.mono (Nat.min_le_right _ _), fun k cs t _ bl => bl.below h⟩
theorem KeepR.trans (B : Nat) : ∀ a b c, KeepR B a b → KeepR B b c → KeepR B a c := fun a b c h k => ⟨h.below.trans (k.below.mono (by have := h.below.size; omega)), fun i cs t ht bl => k.ty i cs t ht (h.ty i cs t ht bl)⟩
theorem KeepR.bel {B : Nat} {a b c : World} (h : Below B a b) (k : KeepR B b c) (hB : B ≤ b.heap.size) : Below B a c := h.trans (k.below.mono (by omega))
theorem KeepR.keepT {B h : Nat} {a b c : World} (k : keepT h a b) (l : KeepR B b c) : keepT h a c := fun i cs t ht hi b => l.ty i cs t ht (k i cs t ht hi b)
theorem KeepR.grown {B base n c : Nat} {W w' : World} {A : Option Addr} {l : List UInt8} (hown : Own W base 5 A n c l) (hg : W.grownBy w' (Value.slice A n c).ownBlock) (hb : B ≤ base) : KeepR B W w' :=
  ⟨((Below.refl (min B W.heap.size) W).grown hg (by omega) (fun k hk => by have := hown.base_le k hk; omega)), fun k cs t ht bl => bl.grown hg (hown.ne_blk bl ht)⟩
def isBs (n : Nat) (l : List UInt8) : World → Value → Prop := fun W v => ∃ A c, v = .slice A n c ∧ Bs W A n c l
theorem st_isBs {n : Nat} {l : List UInt8} : ∀ w w' v, isBs n l w v → Below w.heap.size w w' → isBs n l w' v := fun _ _ _ ⟨A, c, e, k⟩ hb => ⟨A, c, e, k.below hb⟩
theorem goes_litB {n : Nat} {W : World} {l : List UInt8} {cs : Array Value} (hc : (cu l).toArray = cs) (hn : l.length = n) (hm : n ≤ 200000000000000) :
    OpGoes Try.prog (fun v w' => (Kd.p (isBs n l)).holds w' v ∧ Below W.heap.size W w') (.ok (.value (.slice (some ⟨W.heap.size, 0, none⟩) n n)) (W.alloc (.cells cs 5))) := by
  subst hc
  exact ⟨⟨_, _, rfl, bs_lit l n hn hm⟩, (Below.refl _ W).alloc (Nat.le_refl _) _⟩
theorem goes_appN {o : Oper} {a : Act} {W : World} (s x : Operand) (ho : o.op = .call { callee := .builtin .append, args := #[s, x], argTypes := #[24, 24] }) {B B' n c : Nat} {A : Option Addr} {l : List UInt8} (hs : a.eval s = .slice A n c)
    (hown : Own W B 5 A n c l) {A2 : Option Addr} {n2 c2 : Nat} {l2 : List UInt8} (hx : a.eval x = .slice A2 n2 c2) (hr : Bs W A2 n2 c2 l2) (hmax : n + n2 ≤ 200000000000000) (hB : B ≤ W.heap.size) (hBB : B' ≤ B) {J : World → Prop} (hJ : ∀ w', J w') :
    OpGoes Try.prog (fun v w' => (Kd.p (isW B (l ++ l2))).holds w' v ∧ KeepR B' W w' ∧ J w') ((execOp a.eval o).run Try.prog W) := by
  obtain ⟨A', c', w', hrun, hown', hgr⟩ := run_append_bs (P := Try.prog) W B 24 o.type 5 Try.underlying24 info_u8 A n c l hown A2 n2 c2 l2 hr hmax hB
  unfold execOp
  simp only [ho, resolve, invoke, builtin, Sem.run_bind, Sem.run_pure, Result.andThen_ok, List.map_toArray, List.map_cons, List.map_nil, hs, hx, hrun]
  exact ⟨⟨A', _, c', rfl, hown'⟩, KeepR.grown hown hgr hBB, hJ _⟩
theorem neg_and3 {n : Int} (h0 : 20 ≤ n) (h1 : n ≤ 100) : bits .and .i64 (IntKind.i64.wrap (-n)) 3 = ((padN n.toNat : Nat) : Int) := by
  have tab : ∀ a : Fin 101, bits .and .i64 (IntKind.i64.wrap (-(a.val : Int))) 3 = ((padN a.val : Nat) : Int) := by decide +kernel
  have := tab ⟨n.toNat, by omega⟩
  have e : ((n.toNat : Nat) : Int) = n := by omega
  simp only [e] at this
  exact this
structure SoPost (B base hb : Nat) (T : TypeId) (l : List UInt8) (os : List Opt) (w : World) (e : Ending) (w' : World) : Prop where
  out : e = .returned (.tuple #[]) ∧ ∃ A n c, Blk w' hb #[.slice A n c, .bool (!okOs os)] T ∧ (okOs os = true → Own w' base 5 A n c (l ++ optL os)) ∧ Below B w w' ∧ keepT hb w w'
theorem hopts_any (B base hb : Nat) (T : TypeId) (A : Option Addr) (c : Nat) (l : List UInt8) (w0 w : World) (OA : Option Addr) (on oc : Nat) (os : List Opt) (K : Os w0 OA on oc os) (h0w : Below w0.heap.size w0 w) (h0B : w0.heap.size ≤ B) (H : Blk w hb #[.slice A 20 c, .bool false] T)
    (O : Own w base 5 A 20 c l) (hT : T ≠ 5) (b1 : B ≤ hb) (b2 : B ≤ base) (b3 : B ≤ w.heap.size) (b4 : base ≤ w.heap.size) :
    Calls Try.prog 47 #[.pointer (some ⟨hb, 0, none⟩), .slice OA on oc] w (SoPost B base hb T l os w) := by
  have hmax := K.max
  have HL := Lib.hid K.len
  have hc := H.cell
  have hl20 := O.len
  go_enter Try.func47, Try.ntmps47
  go_wp2_with fail
  clear hc
  go_loopw [15] (fun i wr => ∃ (j : Nat) (A' : Option Addr) (n' c' : Nat), j ≤ on ∧ i = .int .i64 j ∧ n' ≤ 60 ∧ 20 ≤ n' ∧ Blk wr hb #[.slice A' n' c', .bool false] T ∧ Own wr base 5 A' n' c' (l ++ optsB (os.take j)) ∧ keepT hb w wr ∧ Below B w wr ∧ Hid (∀ i, i < j → badO (os.getD i zO) = false)) (fun i _ => on - (intOf i).toNat)
  case atStart => exact ⟨0, A, 20, c, by omega, rfl, by omega, by omega, H, by simpa [optsB] using O, keepT.refl _ _, Below.refl _ _, fun i hi => by omega⟩
  case round =>
    obtain ⟨j, Aj, nj, cj, hj, rfl, hnj, hn20, Hj, Oj, Tj, Bj, Gj⟩ := hrel
    have W0 : Below w0.heap.size w0 wr := h0w.trans (Bj.mono h0B)
    obtain ⟨g, rfl, gb, gl⟩ := Oj.ptr (by omega)
    have hjl := Hj.lt
    have gne := Oj.ne_blk Hj hT g rfl
    have hsz := Bj.size
    by_cases hlt : j < on
    · obtain ⟨b, off, rfl, hc⟩ := K.rd (by omega)
      obtain ⟨cK0, Bd, m, d, cD0, bD⟩ := hc j hlt
      have cK := (W0.cell (World.block_lt_of_cell? w0 _ cK0)).trans cK0
      have cD := (W0.cell (World.block_lt_of_cell? w0 _ cD0)).trans cD0
      obtain ⟨k0, k1⟩ := K.at_ok hlt
      have hw := badO_ways (os.getD j zO) m bD.len
      obtain ⟨o, ho⟩ : ∃ o, os.getD j zO = o := ⟨_, rfl⟩
      rw [ho] at cK bD k0 k1 hw
      have HO := Lib.hid ho
      clear hc ho cK0 cD0
      have bm := bD.max
      have hji : (j : Int) < on := by omega
      obtain ⟨κ, hκ⟩ : ∃ κ, o.kind = κ := ⟨_, rfl⟩
      obtain ⟨D, hD⟩ : ∃ D, o.dat = D := ⟨_, rfl⟩
      rw [hκ] at cK k0 k1 hw
      rw [hD] at bD hw
      clear hκ hD
      have hl1 : ∀ (x : Int), 0 ≤ x → x ≤ 255 → (cu [ub x]).toArray = #[.int .u8 x] := fun x x0 x1 => by simp [cu, ub_val]; omega
      obtain ⟨v, hvq⟩ : ∃ W, wr.alloc (.cells #[.int .u8 κ, .slice Bd m d] 66) = W := ⟨_, rfl⟩
      obtain ⟨pk, hpk⟩ : ∃ k : Nat, wr.heap.size = k := ⟨_, rfl⟩
      have Vv : Below wr.heap.size wr v := by first | exact bw1 hvq | exact bw2 hvq | exact bw3 hvq | exact bw4 hvq
      have Pv : Blk v pk #[.int .u8 κ, .slice Bd m d] 66 := by rw [← hvq]; exact blk_new _ _ _ _ hpk
      have pv := Pv.cell
      have Ov := Oj.below Vv
      have Hv := Hj.below Vv
      have hvc := Hv.cell
      have Bv := Bj.trans (Vv.mono (by omega))
      have Tv := Tj.trans (fun k cs t _ _ b => b.below Vv : keepT hb wr v)
      rcases hw with ⟨hb', hw⟩ | ⟨hb', hw⟩
      · have HF : Hid (okOs os = false) := okOs_bad (j := j) (by rw [HL.out]; exact hlt) (by rw [HO.out]; exact hb')
        clear hb'
        have Hf := Hv.set_ 1 (.bool true)
        simp only [List.setIfInBounds_toArray, List.set_cons_zero, List.set_cons_succ] at Hf
        have Bf := Bv.setCell (p := ⟨hb, 1, none⟩) b1 (.bool true)
        have Tf := Tv.set 1 (.bool true)
        rcases hw with h1 | ⟨h1, h2, h3⟩ | ⟨h1, h2, h3⟩
        all_goals go_wp2_with fail
        all_goals go_end0
        all_goals exact ⟨rfl, _, _, _, by rw [HF.out]; exact Hf, fun h => absurd h (by rw [HF.out]; decide), Bf, Tf⟩
      · have HTK := Lib.hid (optsB_take (os := os) (j := j) (by rw [HL.out]; exact hlt))
        have GJ : Hid (∀ i, i < j + 1 → badO (os.getD i zO) = false) := fun i hi => by
          by_cases e : i = j
          · subst e; rw [HO.out]; exact hb'
          · exact Gj.out i (by omega)
        clear hb'
        have gne' : hb ≠ g := Ne.symm gne
        have pne : pk ≠ g := by omega
        have hlκ := hl1 κ k0 k1
        have vsz := Vv.size
        have bvs : base ≤ v.heap.size := by omega
        have gvl : g < v.heap.size := by omega
        rcases hw with ⟨h1, h2, h3, h4⟩ | ⟨h1, h2, h3, h4⟩
        · have H4 := Lib.hid h4
          clear h4
          obtain rfl : κ = 1 := by simpa using h2
          subst h3
          go_wp2_with fail
          refine regionX 10 [9] g (fun c W => match c with | 0 => Own W base 5 (some ⟨g, 0, none⟩) nj cj (l ++ optsB (os.take j)) | _ + 1 => True) (by kernel_rfl) (by kernel_rfl) (by kernel_rfl) Ov (fun c W W' hj hb => by cases c with | zero => exact Own.below hj hb | succ n => trivial) ?_; (iterate 10 (first | (apply ObsX.skip (by rfl) (by rfl)) | (apply ObsX.v (by rfl) (by rfl); (intro wo hE; (repeat (first | (intro v hv; ((obtain ⟨Aq, cq, rfl, oq, oq'⟩ := hv))) | (intro _ _ k; try have hcv := cv k))); (have hco := (Hv.ext hE gne').cell; have pco := (Pv.ext hE pne).cell; have hsz2 := hE.size); refine Goes.mk ?_; first | (exact goes_appX _ _ rfl rfl hj (fun k e => by simp [Value.ownBlock] at e; exact e.symm) rfl oq (by omega) (by omega) (fun _ => trivial)) | (go_simp; first | exact goes_v | exact goes_litN hlκ rfl (by omega) (by omega) | (refine goes_enter ?_; first | fail)))) | (apply ObsX.p (q := isN g 1 [ub 1]) (by rfl) (by rfl) st_isN sx_isN; (intro wo hE; (repeat (first | (intro v hv; ((obtain ⟨Aq, cq, rfl, oq, oq'⟩ := hv))) | (intro _ _ k; try have hcv := cv k))); (have hco := (Hv.ext hE gne').cell; have pco := (Pv.ext hE pne).cell; have hsz2 := hE.size); refine Goes.mk ?_; first | (exact goes_appX _ _ rfl rfl hj (fun k e => by simp [Value.ownBlock] at e; exact e.symm) rfl oq (by omega) (by omega) (fun _ => trivial)) | (go_simp; first | exact goes_v | exact goes_litN hlκ rfl (by omega) (by omega) | (refine goes_enter ?_; first | fail)))) | (apply ObsX.ev (by rfl) (by rfl); (intro wo hE hj; (repeat (first | (intro v hv; ((obtain ⟨Aq, cq, rfl, oq, oq'⟩ := hv))) | (intro _ _ k; try have hcv := cv k))); (have hco := (Hv.ext hE gne').cell; have pco := (Pv.ext hE pne).cell; have hsz2 := hE.size); refine GoesX.mk ?_; first | (exact goes_appX _ _ rfl rfl hj (fun k e => by simp [Value.ownBlock] at e; exact e.symm) rfl oq (by omega) (by omega) (fun _ => trivial)) | (go_simp; first | exact goes_v | exact goes_litN hlκ rfl (by omega) (by omega) | (refine goes_enter ?_; first | fail)))) | (apply ObsX.ep (q := isN g 1 [ub 1]) (by rfl) (by rfl) (by rfl) st_isN; (intro wo hE hj; (repeat (first | (intro v hv; ((obtain ⟨Aq, cq, rfl, oq, oq'⟩ := hv))) | (intro _ _ k; try have hcv := cv k))); (have hco := (Hv.ext hE gne').cell; have pco := (Pv.ext hE pne).cell; have hsz2 := hE.size); refine GoesX.mk ?_; first | (exact goes_appX _ _ rfl rfl hj (fun k e => by simp [Value.ownBlock] at e; exact e.symm) rfl oq (by omega) (by omega) (fun _ => trivial)) | (go_simp; first | exact goes_v | exact goes_litN hlκ rfl (by omega) (by omega) | (refine goes_enter ?_; first | fail)))) | (apply ObsX.ep (q := isW base ((l ++ optsB (os.take j)) ++ [ub 1])) (by rfl) (by rfl) (by rfl) st_isW; (intro wo hE hj; (repeat (first | (intro v hv; ((obtain ⟨Aq, cq, rfl, oq, oq'⟩ := hv))) | (intro _ _ k; try have hcv := cv k))); (have hco := (Hv.ext hE gne').cell; have pco := (Pv.ext hE pne).cell; have hsz2 := hE.size); refine GoesX.mk ?_; first | (exact goes_appX _ _ rfl rfl hj (fun k e => by simp [Value.ownBlock] at e; exact e.symm) rfl oq (by omega) (by omega) (fun _ => trivial)) | (go_simp; first | exact goes_v | exact goes_litN hlκ rfl (by omega) (by omega) | (refine goes_enter ?_; first | fail)))))); refine ObsX.nil ?_; intro wz hEz hJz; simp only [finOn, List.drop_succ_cons, List.drop_zero, List.drop_nil]
          rintro v9 ⟨A9, n9, c9, rfl, O9⟩ v8 hv8
          go_simp
          clear hv8
          have u9 : n9 = nj + 1 := by have := O9.len; have := Ov.len; simp at *; omega
          subst u9
          have Hz := Hv.ext hEz gne'
          have Pz := Pv.ext hEz pne
          have Bz := below_ext Bv hEz (by omega) (by omega)
          have Tz : keepT hb w wz := Tv.grown Ov hEz
          have hzc := Hz.cell
          obtain ⟨x, hx⟩ : ∃ W, wz.setCell ⟨hb, 0, none⟩ (.slice A9 (nj + 1) c9) = W := ⟨_, rfl⟩
          have Hx := Hz.set_ 0 (.slice A9 (nj + 1) c9)
          simp only [List.setIfInBounds_toArray, List.set_cons_zero, List.set_cons_succ] at Hx
          have Px := Pz.far ⟨hb, 0, none⟩ (by show hb ≠ pk; omega) (.slice A9 (nj + 1) c9)
          have Ox := O9.away ⟨hb, 0, none⟩ (.slice A9 (nj + 1) c9) (fun a e => O9.ne_blk Hz hT a.block (by rw [e]; rfl))
          have Bx := Bz.setCell (p := ⟨hb, 0, none⟩) b1 (.slice A9 (nj + 1) c9)
          have Tx := Tz.set 0 (.slice A9 (nj + 1) c9)
          rw [hx] at Hx Px Ox Bx Tx
          have hxc := Hx.cell
          have pxc := Px.cell
          by_cases h60 : (nj + 1) ≤ 60
          · have h60' : decide (40 < ((nj + 1) : Int) - 20) = false := by simp; omega
            have h60i : ((nj + 1) : Int) ≤ 60 := by omega
            have Hf := Hx.set_ 1 (.bool false)
            simp only [List.setIfInBounds_toArray, List.set_cons_zero, List.set_cons_succ] at Hf
            have Of := Ox.away ⟨hb, 1, none⟩ (.bool false) (fun a e => Ox.ne_blk Hx hT a.block (by rw [e]; rfl))
            have Bf := Bx.setCell (p := ⟨hb, 1, none⟩) b1 (.bool false)
            have Tf := Tx.set 1 (.bool false)
            have hfc := Hf.cell
            go_wp2_with fail
            exact ⟨⟨j + 1, _, _, _, by omega, by go_num, h60, by omega, Hf, by rw [HTK.out, HO.out, H4.out]; simpa using Of, Tf, Bf, GJ⟩, by simp [intOf]; omega⟩
          · have h60' : decide (40 < ((nj + 1) : Int) - 20) = true := by simp; omega
            have h60i : (60 : Int) < (nj + 1) := by omega
            have HF : Hid (okOs os = false) := okOs_long (j := j + 1) (by rw [HTK.out, HO.out, H4.out]; have := Ox.len; simp at *; omega)
            have Hf := Hx.set_ 1 (.bool true)
            simp only [List.setIfInBounds_toArray, List.set_cons_zero, List.set_cons_succ] at Hf
            have Bf := Bx.setCell (p := ⟨hb, 1, none⟩) b1 (.bool true)
            have Tf := Tx.set 1 (.bool true)
            have hfc := Hf.cell
            go_wp2_with fail
            go_end0
            exact ⟨rfl, _, _, _, by rw [HF.out]; exact Hf, fun h => absurd h (by rw [HF.out]; decide), Bf, Tf⟩
        · have H4 := Lib.hid h4
          clear h4
          have hm38 : (m : Int) ≤ 38 := by omega
          obtain ⟨z, hz⟩ : ∃ z : Int, 2 + (m : Int) = z := ⟨_, rfl⟩
          have z0 : 0 ≤ z := by omega
          have z1 : z ≤ 255 := by omega
          have hws : IntKind.i64.wrap (2 + (m : Int)) = z := by rw [IntKind.wrap_i64]; omega
          have hwu : IntKind.u8.wrap z = z := by rw [IntKind.wrap_u8]; omega
          have hlz := hl1 z z0 z1
          have HZ := Lib.hid hz
          clear hz
          go_wp2_with fail
          refine regionX 10 [9] g (fun c W => match c with | 0 => Own W base 5 (some ⟨g, 0, none⟩) nj cj (l ++ optsB (os.take j)) | _ + 1 => True) (by kernel_rfl) (by kernel_rfl) (by kernel_rfl) Ov (fun c W W' hj hb => by cases c with | zero => exact Own.below hj hb | succ n => trivial) ?_; (iterate 10 (first | (apply ObsX.skip (by rfl) (by rfl)) | (apply ObsX.v (by rfl) (by rfl); (intro wo hE; (repeat (first | (intro v hv; ((obtain ⟨Aq, cq, rfl, oq, oq'⟩ := hv))) | (intro _ _ k; try have hcv := cv k))); (have hco := (Hv.ext hE gne').cell; have pco := (Pv.ext hE pne).cell; have hsz2 := hE.size); refine Goes.mk ?_; first | (exact goes_appX _ _ rfl rfl hj (fun k e => by simp [Value.ownBlock] at e; exact e.symm) rfl oq (by omega) (by omega) (fun _ => trivial)) | (go_simp; first | exact goes_v | exact goes_litN hlκ rfl (by omega) (by omega) | (refine goes_enter ?_; first | fail)))) | (apply ObsX.p (q := isN g 1 [ub κ]) (by rfl) (by rfl) st_isN sx_isN; (intro wo hE; (repeat (first | (intro v hv; ((obtain ⟨Aq, cq, rfl, oq, oq'⟩ := hv))) | (intro _ _ k; try have hcv := cv k))); (have hco := (Hv.ext hE gne').cell; have pco := (Pv.ext hE pne).cell; have hsz2 := hE.size); refine Goes.mk ?_; first | (exact goes_appX _ _ rfl rfl hj (fun k e => by simp [Value.ownBlock] at e; exact e.symm) rfl oq (by omega) (by omega) (fun _ => trivial)) | (go_simp; first | exact goes_v | exact goes_litN hlκ rfl (by omega) (by omega) | (refine goes_enter ?_; first | fail)))) | (apply ObsX.ev (by rfl) (by rfl); (intro wo hE hj; (repeat (first | (intro v hv; ((obtain ⟨Aq, cq, rfl, oq, oq'⟩ := hv))) | (intro _ _ k; try have hcv := cv k))); (have hco := (Hv.ext hE gne').cell; have pco := (Pv.ext hE pne).cell; have hsz2 := hE.size); refine GoesX.mk ?_; first | (exact goes_appX _ _ rfl rfl hj (fun k e => by simp [Value.ownBlock] at e; exact e.symm) rfl oq (by omega) (by omega) (fun _ => trivial)) | (go_simp; first | exact goes_v | exact goes_litN hlκ rfl (by omega) (by omega) | (refine goes_enter ?_; first | fail)))) | (apply ObsX.ep (q := isN g 1 [ub κ]) (by rfl) (by rfl) (by rfl) st_isN; (intro wo hE hj; (repeat (first | (intro v hv; ((obtain ⟨Aq, cq, rfl, oq, oq'⟩ := hv))) | (intro _ _ k; try have hcv := cv k))); (have hco := (Hv.ext hE gne').cell; have pco := (Pv.ext hE pne).cell; have hsz2 := hE.size); refine GoesX.mk ?_; first | (exact goes_appX _ _ rfl rfl hj (fun k e => by simp [Value.ownBlock] at e; exact e.symm) rfl oq (by omega) (by omega) (fun _ => trivial)) | (go_simp; first | exact goes_v | exact goes_litN hlκ rfl (by omega) (by omega) | (refine goes_enter ?_; first | fail)))) | (apply ObsX.ep (q := isW base ((l ++ optsB (os.take j)) ++ [ub κ])) (by rfl) (by rfl) (by rfl) st_isW; (intro wo hE hj; (repeat (first | (intro v hv; ((obtain ⟨Aq, cq, rfl, oq, oq'⟩ := hv))) | (intro _ _ k; try have hcv := cv k))); (have hco := (Hv.ext hE gne').cell; have pco := (Pv.ext hE pne).cell; have hsz2 := hE.size); refine GoesX.mk ?_; first | (exact goes_appX _ _ rfl rfl hj (fun k e => by simp [Value.ownBlock] at e; exact e.symm) rfl oq (by omega) (by omega) (fun _ => trivial)) | (go_simp; first | exact goes_v | exact goes_litN hlκ rfl (by omega) (by omega) | (refine goes_enter ?_; first | fail)))))); refine ObsX.nil ?_; intro wz hEz hJz; simp only [finOn, List.drop_succ_cons, List.drop_zero, List.drop_nil]
          rintro v9 ⟨A9, n9, c9, rfl, O9⟩ v8 hv8
          go_simp
          clear hv8
          have u9 : n9 = nj + 1 := by have := O9.len; have := Ov.len; simp at *; omega
          subst u9
          have Hz := Hv.ext hEz gne'
          have Pz := Pv.ext hEz pne
          have Bz := below_ext Bv hEz (by omega) (by omega)
          have Tz : keepT hb w wz := Tv.grown Ov hEz
          have hzc := Hz.cell
          obtain ⟨x, hx⟩ : ∃ W, wz.setCell ⟨hb, 0, none⟩ (.slice A9 (nj + 1) c9) = W := ⟨_, rfl⟩
          have Hx := Hz.set_ 0 (.slice A9 (nj + 1) c9)
          simp only [List.setIfInBounds_toArray, List.set_cons_zero, List.set_cons_succ] at Hx
          have Px := Pz.far ⟨hb, 0, none⟩ (by show hb ≠ pk; omega) (.slice A9 (nj + 1) c9)
          have Ox := O9.away ⟨hb, 0, none⟩ (.slice A9 (nj + 1) c9) (fun a e => O9.ne_blk Hz hT a.block (by rw [e]; rfl))
          have Bx := Bz.setCell (p := ⟨hb, 0, none⟩) b1 (.slice A9 (nj + 1) c9)
          have Tx := Tz.set 0 (.slice A9 (nj + 1) c9)
          rw [hx] at Hx Px Ox Bx Tx
          have hxc := Hx.cell
          have pxc := Px.cell
          have xsz := Bx.size
          have bxs : base ≤ x.heap.size := by omega
          have bXs : B ≤ x.heap.size := by omega
          go_wp2_with fail
          clear hxc pxc hx
          refine regionN 16 [12, 15] (KeepR B) (fun c W => match c with | 0 => Own W base 5 A9 (nj + 1) c9 ((l ++ optsB (os.take j)) ++ [ub κ]) | _ + 1 => True) (by kernel_rfl) (by kernel_rfl) (by kernel_rfl) (KeepR.of B) (KeepR.trans B) Ox (fun c W W' hj hb => by cases c with | zero => exact Own.below hj hb | succ n => trivial) ?_; (iterate 16 (first | (apply ObsN.skip (by rfl) (by rfl)) | (apply ObsN.v (by rfl) (by rfl); (intro wo hE; (repeat (first | (intro v hv; ((first | (obtain ⟨Aq, cq, rfl, oq⟩ := hv) | (obtain ⟨Ar, nr, cr, rfl, or⟩ := hv; have ur : nj + 1 + 1 = nr := (by have := or.len; have := Ox.len; simp at *; omega); subst ur)))) | (intro _ _ k; try have hcv := cv k))); (have hco := (hE.ty hb _ T hT Hx).cell; have pco := (hE.ty pk _ _ (by decide) Px).cell; have bo := bD.below ((h0w.trans (Bx.mono h0B)).trans (hE.below.mono (by omega))); have hsz2 := hE.below.size); refine Goes.mk ?_; first | ((first | exact goes_appN _ _ rfl rfl hj rfl oq (by omega) (by omega) b2 (fun _ => trivial) | exact goes_appN _ _ rfl rfl or rfl bo (by omega) (by omega) b2 (fun _ => trivial))) | (go_simp; first | exact goes_v | exact goes_litB hlz rfl (by omega) | (refine goes_enter ?_; first | fail)))) | (apply ObsN.l (q := isBs 1 [ub z]) (by rfl) (by rfl) st_isBs; (intro wo hE; (repeat (first | (intro v hv; ((first | (obtain ⟨Aq, cq, rfl, oq⟩ := hv) | (obtain ⟨Ar, nr, cr, rfl, or⟩ := hv; have ur : nj + 1 + 1 = nr := (by have := or.len; have := Ox.len; simp at *; omega); subst ur)))) | (intro _ _ k; try have hcv := cv k))); (have hco := (hE.ty hb _ T hT Hx).cell; have pco := (hE.ty pk _ _ (by decide) Px).cell; have bo := bD.below ((h0w.trans (Bx.mono h0B)).trans (hE.below.mono (by omega))); have hsz2 := hE.below.size); refine Goes.mk ?_; first | ((first | exact goes_appN _ _ rfl rfl hj rfl oq (by omega) (by omega) b2 (fun _ => trivial) | exact goes_appN _ _ rfl rfl or rfl bo (by omega) (by omega) b2 (fun _ => trivial))) | (go_simp; first | exact goes_v | exact goes_litB hlz rfl (by omega) | (refine goes_enter ?_; first | fail)))) | (apply ObsN.l (q := isW base (((l ++ optsB (os.take j)) ++ [ub κ]) ++ [ub z])) (by rfl) (by rfl) st_isW; (intro wo hE; (repeat (first | (intro v hv; ((first | (obtain ⟨Aq, cq, rfl, oq⟩ := hv) | (obtain ⟨Ar, nr, cr, rfl, or⟩ := hv; have ur : nj + 1 + 1 = nr := (by have := or.len; have := Ox.len; simp at *; omega); subst ur)))) | (intro _ _ k; try have hcv := cv k))); (have hco := (hE.ty hb _ T hT Hx).cell; have pco := (hE.ty pk _ _ (by decide) Px).cell; have bo := bD.below ((h0w.trans (Bx.mono h0B)).trans (hE.below.mono (by omega))); have hsz2 := hE.below.size); refine Goes.mk ?_; first | ((first | exact goes_appN _ _ rfl rfl hj rfl oq (by omega) (by omega) b2 (fun _ => trivial) | exact goes_appN _ _ rfl rfl or rfl bo (by omega) (by omega) b2 (fun _ => trivial))) | (go_simp; first | exact goes_v | exact goes_litB hlz rfl (by omega) | (refine goes_enter ?_; first | fail)))) | (apply ObsN.l (q := isW base ((((l ++ optsB (os.take j)) ++ [ub κ]) ++ [ub z]) ++ D)) (by rfl) (by rfl) st_isW; (intro wo hE; (repeat (first | (intro v hv; ((first | (obtain ⟨Aq, cq, rfl, oq⟩ := hv) | (obtain ⟨Ar, nr, cr, rfl, or⟩ := hv; have ur : nj + 1 + 1 = nr := (by have := or.len; have := Ox.len; simp at *; omega); subst ur)))) | (intro _ _ k; try have hcv := cv k))); (have hco := (hE.ty hb _ T hT Hx).cell; have pco := (hE.ty pk _ _ (by decide) Px).cell; have bo := bD.below ((h0w.trans (Bx.mono h0B)).trans (hE.below.mono (by omega))); have hsz2 := hE.below.size); refine Goes.mk ?_; first | ((first | exact goes_appN _ _ rfl rfl hj rfl oq (by omega) (by omega) b2 (fun _ => trivial) | exact goes_appN _ _ rfl rfl or rfl bo (by omega) (by omega) b2 (fun _ => trivial))) | (go_simp; first | exact goes_v | exact goes_litB hlz rfl (by omega) | (refine goes_enter ?_; first | fail)))) | (apply ObsN.ev (by rfl) (by rfl); (intro wo hE hj; (repeat (first | (intro v hv; ((first | (obtain ⟨Aq, cq, rfl, oq⟩ := hv) | (obtain ⟨Ar, nr, cr, rfl, or⟩ := hv; have ur : nj + 1 + 1 = nr := (by have := or.len; have := Ox.len; simp at *; omega); subst ur)))) | (intro _ _ k; try have hcv := cv k))); (have hco := (hE.ty hb _ T hT Hx).cell; have pco := (hE.ty pk _ _ (by decide) Px).cell; have bo := bD.below ((h0w.trans (Bx.mono h0B)).trans (hE.below.mono (by omega))); have hsz2 := hE.below.size); refine GoesN.mk ?_; first | ((first | exact goes_appN _ _ rfl rfl hj rfl oq (by omega) (by omega) b2 (fun _ => trivial) | exact goes_appN _ _ rfl rfl or rfl bo (by omega) (by omega) b2 (fun _ => trivial))) | (go_simp; first | exact goes_v | exact goes_litB hlz rfl (by omega) | (refine goes_enter ?_; first | fail)))) | (apply ObsN.el (q := isBs 1 [ub z]) (by rfl) (by rfl) (by rfl) st_isBs; (intro wo hE hj; (repeat (first | (intro v hv; ((first | (obtain ⟨Aq, cq, rfl, oq⟩ := hv) | (obtain ⟨Ar, nr, cr, rfl, or⟩ := hv; have ur : nj + 1 + 1 = nr := (by have := or.len; have := Ox.len; simp at *; omega); subst ur)))) | (intro _ _ k; try have hcv := cv k))); (have hco := (hE.ty hb _ T hT Hx).cell; have pco := (hE.ty pk _ _ (by decide) Px).cell; have bo := bD.below ((h0w.trans (Bx.mono h0B)).trans (hE.below.mono (by omega))); have hsz2 := hE.below.size); refine GoesN.mk ?_; first | ((first | exact goes_appN _ _ rfl rfl hj rfl oq (by omega) (by omega) b2 (fun _ => trivial) | exact goes_appN _ _ rfl rfl or rfl bo (by omega) (by omega) b2 (fun _ => trivial))) | (go_simp; first | exact goes_v | exact goes_litB hlz rfl (by omega) | (refine goes_enter ?_; first | fail)))) | (apply ObsN.el (q := isW base (((l ++ optsB (os.take j)) ++ [ub κ]) ++ [ub z])) (by rfl) (by rfl) (by rfl) st_isW; (intro wo hE hj; (repeat (first | (intro v hv; ((first | (obtain ⟨Aq, cq, rfl, oq⟩ := hv) | (obtain ⟨Ar, nr, cr, rfl, or⟩ := hv; have ur : nj + 1 + 1 = nr := (by have := or.len; have := Ox.len; simp at *; omega); subst ur)))) | (intro _ _ k; try have hcv := cv k))); (have hco := (hE.ty hb _ T hT Hx).cell; have pco := (hE.ty pk _ _ (by decide) Px).cell; have bo := bD.below ((h0w.trans (Bx.mono h0B)).trans (hE.below.mono (by omega))); have hsz2 := hE.below.size); refine GoesN.mk ?_; first | ((first | exact goes_appN _ _ rfl rfl hj rfl oq (by omega) (by omega) b2 (fun _ => trivial) | exact goes_appN _ _ rfl rfl or rfl bo (by omega) (by omega) b2 (fun _ => trivial))) | (go_simp; first | exact goes_v | exact goes_litB hlz rfl (by omega) | (refine goes_enter ?_; first | fail)))) | (apply ObsN.el (q := isW base ((((l ++ optsB (os.take j)) ++ [ub κ]) ++ [ub z]) ++ D)) (by rfl) (by rfl) (by rfl) st_isW; (intro wo hE hj; (repeat (first | (intro v hv; ((first | (obtain ⟨Aq, cq, rfl, oq⟩ := hv) | (obtain ⟨Ar, nr, cr, rfl, or⟩ := hv; have ur : nj + 1 + 1 = nr := (by have := or.len; have := Ox.len; simp at *; omega); subst ur)))) | (intro _ _ k; try have hcv := cv k))); (have hco := (hE.ty hb _ T hT Hx).cell; have pco := (hE.ty pk _ _ (by decide) Px).cell; have bo := bD.below ((h0w.trans (Bx.mono h0B)).trans (hE.below.mono (by omega))); have hsz2 := hE.below.size); refine GoesN.mk ?_; first | ((first | exact goes_appN _ _ rfl rfl hj rfl oq (by omega) (by omega) b2 (fun _ => trivial) | exact goes_appN _ _ rfl rfl or rfl bo (by omega) (by omega) b2 (fun _ => trivial))) | (go_simp; first | exact goes_v | exact goes_litB hlz rfl (by omega) | (refine goes_enter ?_; first | fail)))) | (apply ObsN.ep (q := isBs 1 [ub z]) (by rfl) (by rfl) (by rfl) st_isBs; (intro wo hE hj; (repeat (first | (intro v hv; ((first | (obtain ⟨Aq, cq, rfl, oq⟩ := hv) | (obtain ⟨Ar, nr, cr, rfl, or⟩ := hv; have ur : nj + 1 + 1 = nr := (by have := or.len; have := Ox.len; simp at *; omega); subst ur)))) | (intro _ _ k; try have hcv := cv k))); (have hco := (hE.ty hb _ T hT Hx).cell; have pco := (hE.ty pk _ _ (by decide) Px).cell; have bo := bD.below ((h0w.trans (Bx.mono h0B)).trans (hE.below.mono (by omega))); have hsz2 := hE.below.size); refine GoesN.mk ?_; first | ((first | exact goes_appN _ _ rfl rfl hj rfl oq (by omega) (by omega) b2 (fun _ => trivial) | exact goes_appN _ _ rfl rfl or rfl bo (by omega) (by omega) b2 (fun _ => trivial))) | (go_simp; first | exact goes_v | exact goes_litB hlz rfl (by omega) | (refine goes_enter ?_; first | fail)))) | (apply ObsN.ep (q := isW base (((l ++ optsB (os.take j)) ++ [ub κ]) ++ [ub z])) (by rfl) (by rfl) (by rfl) st_isW; (intro wo hE hj; (repeat (first | (intro v hv; ((first | (obtain ⟨Aq, cq, rfl, oq⟩ := hv) | (obtain ⟨Ar, nr, cr, rfl, or⟩ := hv; have ur : nj + 1 + 1 = nr := (by have := or.len; have := Ox.len; simp at *; omega); subst ur)))) | (intro _ _ k; try have hcv := cv k))); (have hco := (hE.ty hb _ T hT Hx).cell; have pco := (hE.ty pk _ _ (by decide) Px).cell; have bo := bD.below ((h0w.trans (Bx.mono h0B)).trans (hE.below.mono (by omega))); have hsz2 := hE.below.size); refine GoesN.mk ?_; first | ((first | exact goes_appN _ _ rfl rfl hj rfl oq (by omega) (by omega) b2 (fun _ => trivial) | exact goes_appN _ _ rfl rfl or rfl bo (by omega) (by omega) b2 (fun _ => trivial))) | (go_simp; first | exact goes_v | exact goes_litB hlz rfl (by omega) | (refine goes_enter ?_; first | fail)))) | (apply ObsN.ep (q := isW base ((((l ++ optsB (os.take j)) ++ [ub κ]) ++ [ub z]) ++ D)) (by rfl) (by rfl) (by rfl) st_isW; (intro wo hE hj; (repeat (first | (intro v hv; ((first | (obtain ⟨Aq, cq, rfl, oq⟩ := hv) | (obtain ⟨Ar, nr, cr, rfl, or⟩ := hv; have ur : nj + 1 + 1 = nr := (by have := or.len; have := Ox.len; simp at *; omega); subst ur)))) | (intro _ _ k; try have hcv := cv k))); (have hco := (hE.ty hb _ T hT Hx).cell; have pco := (hE.ty pk _ _ (by decide) Px).cell; have bo := bD.below ((h0w.trans (Bx.mono h0B)).trans (hE.below.mono (by omega))); have hsz2 := hE.below.size); refine GoesN.mk ?_; first | ((first | exact goes_appN _ _ rfl rfl hj rfl oq (by omega) (by omega) b2 (fun _ => trivial) | exact goes_appN _ _ rfl rfl or rfl bo (by omega) (by omega) b2 (fun _ => trivial))) | (go_simp; first | exact goes_v | exact goes_litB hlz rfl (by omega) | (refine goes_enter ?_; first | fail)))))); refine ObsN.nil ?_; intro wz hEz hJz; simp only [finOn, kT, List.drop_succ_cons, List.drop_zero, List.drop_nil]
          rintro v15 ⟨A5, N, c5, rfl, O5⟩ v12 hv12 v11 hv11
          go_simp
          clear hv12 hv11
          have H5 := hEz.ty hb _ T hT Hx
          have B5 := KeepR.bel Bx hEz bXs
          have T5 := KeepR.keepT Tx hEz
          have h5c := H5.cell
          obtain ⟨x5, hx5⟩ : ∃ W, wz.setCell ⟨hb, 0, none⟩ (.slice A5 N c5) = W := ⟨_, rfl⟩
          have Hq := H5.set_ 0 (.slice A5 N c5)
          simp only [List.setIfInBounds_toArray, List.set_cons_zero, List.set_cons_succ] at Hq
          have Oq := O5.away ⟨hb, 0, none⟩ (.slice A5 N c5) (fun a e => O5.ne_blk H5 hT a.block (by rw [e]; rfl))
          have Bq := B5.setCell (p := ⟨hb, 0, none⟩) b1 (.slice A5 N c5)
          have Tq := T5.set 0 (.slice A5 N c5)
          rw [hx5] at Hq Oq Bq Tq
          have hqc := Hq.cell
          have uN : N = nj + 2 + m := by have := O5.len; have := Ox.len; have := bD.len; simp at *; omega
          have hN1 : (N : Int) ≤ 200 := by omega
          have hN2 : (20 : Int) ≤ N := by omega
          have UN := Lib.hid uN
          clear uN
          by_cases h60 : N ≤ 60
          · have h60' : decide (40 < (N : Int) - 20) = false := by simp; omega
            have h60i : (N : Int) ≤ 60 := by omega
            have Hf := Hq.set_ 1 (.bool false)
            simp only [List.setIfInBounds_toArray, List.set_cons_zero, List.set_cons_succ] at Hf
            have Of := Oq.away ⟨hb, 1, none⟩ (.bool false) (fun a e => Oq.ne_blk Hq hT a.block (by rw [e]; rfl))
            have Bf := Bq.setCell (p := ⟨hb, 1, none⟩) b1 (.bool false)
            have Tf := Tq.set 1 (.bool false)
            have hfc := Hf.cell
            go_wp2_with fail
            exact ⟨⟨j + 1, _, _, _, by omega, by go_num, h60, by have := UN.out; omega, Hf, by rw [HTK.out, HO.out, H4.out, HZ.out]; simpa using Of, Tf, Bf, GJ⟩, by simp [intOf]; omega⟩
          · have h60' : decide (40 < (N : Int) - 20) = true := by simp; omega
            have h60i : (60 : Int) < N := by omega
            have HF : Hid (okOs os = false) := okOs_long (j := j + 1) (by rw [HTK.out, HO.out, H4.out, HZ.out]; have := Oq.len; simp at *; omega)
            have Hf := Hq.set_ 1 (.bool true)
            simp only [List.setIfInBounds_toArray, List.set_cons_zero, List.set_cons_succ] at Hf
            have Bf := Bq.setCell (p := ⟨hb, 1, none⟩) b1 (.bool true)
            have Tf := Tq.set 1 (.bool true)
            have hfc := Hf.cell
            go_wp2_with fail
            go_end0
            exact ⟨rfl, _, _, _, by rw [HF.out]; exact Hf, fun h => absurd h (by rw [HF.out]; decide), Bf, Tf⟩
    · obtain rfl : j = on := by omega
      have htk : os.take j = os := List.take_of_length_le (by rw [HL.out]; exact Nat.le_refl _)
      rw [htk] at Oj
      have hlen : 20 + (optsB os).length = nj := by have := Oj.len; rw [List.length_append, hl20] at this; exact this
      have HY : Hid (okOs os = true) := okOs_yes (fun i hi => Gj.out i (by rw [← HL.out]; exact hi)) (by omega)
      obtain ⟨pn, hpn⟩ : ∃ pn, padN nj = pn := ⟨_, rfl⟩
      have HP : Hid ((l ++ optsB os) ++ zs pn = l ++ optL os) := by
        unfold Hid optL
        rw [List.append_assoc]
        congr 3
        rw [← hpn]; unfold padN; omega
      have hp3 : pn ≤ 3 := by rw [← hpn]; unfold padN; omega
      have hand := neg_and3 (n := (nj : Int)) (by omega) (by omega)
      rw [show ((nj : Int)).toNat = nj from rfl, hpn] at hand
      have HPN := Lib.hid hpn
      clear hpn htk hlen
      have gne' : hb ≠ g := Ne.symm gne
      have rsz : base ≤ wr.heap.size := by omega
      have rBs : B ≤ wr.heap.size := by omega
      go_wp2_with fail
      refine regionX 15 [14] g (fun c W => match c with | 0 => Own W base 5 (some ⟨g, 0, none⟩) nj cj (l ++ optsB os) | _ + 1 => True) (by kernel_rfl) (by kernel_rfl) (by kernel_rfl) Oj (fun c W W' hj hb => by cases c with | zero => exact Own.below hj hb | succ n => trivial) ?_; (iterate 15 (first | (apply ObsX.skip (by rfl) (by rfl)) | (apply ObsX.v (by rfl) (by rfl); (intro wo hE; (repeat (first | (intro v hv; (fail)) | (intro _ _ k; try have hcv := cv k))); (have hco := (Hj.ext hE gne').cell; have hsz2 := hE.size); refine Goes.mk ?_; first | (exact goes_zerosX _ _ 24 3 5 .i64 .i64 rfl Try.underlying24 Try.underlying3 info_u8 rfl hj rfl (by omega) (by omega) (by omega) (fun _ => trivial)) | (go_simp; first | exact goes_v | fail | (refine goes_enter ?_; first | fail)))) | (apply ObsX.ev (by rfl) (by rfl); (intro wo hE hj; (repeat (first | (intro v hv; (fail)) | (intro _ _ k; try have hcv := cv k))); (have hco := (Hj.ext hE gne').cell; have hsz2 := hE.size); refine GoesX.mk ?_; first | (exact goes_zerosX _ _ 24 3 5 .i64 .i64 rfl Try.underlying24 Try.underlying3 info_u8 rfl hj rfl (by omega) (by omega) (by omega) (fun _ => trivial)) | (go_simp; first | exact goes_v | fail | (refine goes_enter ?_; first | fail)))) | (apply ObsX.ep (q := (fun w'' v => ∃ A n' c', v = .slice A n' c' ∧ Own w'' base 5 A n' c' ((l ++ optsB os) ++ zs pn))) (by rfl) (by rfl) (by rfl) (fun _ _ _ ⟨A, n, c, e, k⟩ hb => ⟨A, n, c, e, k.below hb⟩); (intro wo hE hj; (repeat (first | (intro v hv; (fail)) | (intro _ _ k; try have hcv := cv k))); (have hco := (Hj.ext hE gne').cell; have hsz2 := hE.size); refine GoesX.mk ?_; first | (exact goes_zerosX _ _ 24 3 5 .i64 .i64 rfl Try.underlying24 Try.underlying3 info_u8 rfl hj rfl (by omega) (by omega) (by omega) (fun _ => trivial)) | (go_simp; first | exact goes_v | fail | (refine goes_enter ?_; first | fail)))))); refine ObsX.nil ?_; intro wz hEz hJz; simp only [finOn, List.drop_succ_cons, List.drop_zero, List.drop_nil]
      rintro v14 ⟨A5, N, c5, rfl, O5⟩
      go_simp
      have H5 := Hj.ext hEz gne'
      have B5 := below_ext Bj hEz (by omega) rBs
      have T5 : keepT hb w wz := Tj.grown Oj hEz
      have h5c := H5.cell
      have Hq := H5.set_ 0 (.slice A5 N c5)
      simp only [List.setIfInBounds_toArray, List.set_cons_zero, List.set_cons_succ] at Hq
      have Oq := O5.away ⟨hb, 0, none⟩ (.slice A5 N c5) (fun a e => O5.ne_blk H5 hT a.block (by rw [e]; rfl))
      have Bq := B5.setCell (p := ⟨hb, 0, none⟩) b1 (.slice A5 N c5)
      have Tq := T5.set 0 (.slice A5 N c5)
      go_wp2_with fail
      go_end0
      exact ⟨rfl, _, _, _, by rw [HY.out]; exact Hq, fun _ => by rw [← HP.out]; exact Oq, Bq, Tq⟩
set_option maxHeartbeats 1000000
def isExt : Op → Bool
  | .extract .. => true
  | _ => false
def lateL (m z s : Nat) : Array Bool := Array.ofFn fun i : Fin s => decide (i.val < m) && i.val != z
def upZ (ops : Array Oper) (lo hi z j : Nat) : Bool := (List.range (hi + 1 - lo)).any fun k => lo + k != z && match ops[lo + k]? with
  | some o => hasOn o j
  | none => false
def regZ (ops : Array Oper) (m z n : Nat) : Bool :=
  decide (m ≤ ops.size) && decide (z < m) && (List.range m).all (mainB ops m n) && (List.range ops.size).all (downB ops) &&
    ((List.range m).all fun j => j == z || upZ ops (j + 1) m z j) && ((List.range (ops.size - 1 - m)).all fun k => upB ops (m + k + 1) (m + k + 1) (m + k)) &&
    Region.noSelect ops && Region.free .any ops (lateL m z ops.size) z && (Region.ready .any ops (lateL m z ops.size)).contains z &&
    (match ops[z]? with
      | some o => isExt o.op && o.guard.isNone
      | none => false)
structure RegOkZ (ops : Array Oper) (m z n : Nat) : Prop where
  le : m ≤ ops.size
  zlt : z < m
  main : ∀ i o, i < m → ops[i]? = some o → ∃ t, o.dst = some t ∧ t < n ∧ (∀ j, j < i → dstOf ops j ≠ some t) ∧ isSel o.op = false ∧
    (∀ s, .tmp s ∈ o.op.operands → ∀ j, j < m → dstOf ops j = some s → hasOn o j = true ∧ j < i) ∧ (∀ g b, o.guard = some (g, b) → hasOn o g = true ∧ g < i)
  down : ∀ i o, ops[i]? = some o → ∀ e ∈ o.after, Region.binds .any e = true → e.on < i
  up : ∀ j, j < m → j ≠ z → ∃ k o, j < k ∧ k ≤ m ∧ k ≠ z ∧ ops[k]? = some o ∧ hasOn o j = true
  tail : ∀ k, m ≤ k → k + 1 < ops.size → ∃ o, ops[k + 1]? = some o ∧ hasOn o k = true
  nosel : Region.noSelect ops = true
  free : Region.free .any ops (lateL m z ops.size) z = true
  rdy : (Region.ready .any ops (lateL m z ops.size)).contains z = true
  ext : ∀ o, ops[z]? = some o → isExt o.op = true ∧ o.guard = none
theorem upZ_out {ops : Array Oper} {lo hi z j : Nat} (h : upZ ops lo hi z j = true) : ∃ k o, lo ≤ k ∧ k ≤ hi ∧ k ≠ z ∧ ops[k]? = some o ∧ hasOn o j = true := by
  obtain ⟨k, hk, hh⟩ := List.any_eq_true.1 h
  have := List.mem_range.1 hk
  simp only [Bool.and_eq_true, bne_iff_ne, ne_eq] at hh
  obtain ⟨hz, hh⟩ := hh
  cases ho : ops[lo + k]? with
  | none => rw [ho] at hh; cases hh
  | some o => rw [ho] at hh; exact ⟨lo + k, o, by omega, by omega, hz, ho, hh⟩
theorem regZ_out {ops : Array Oper} {m z n : Nat} (h : regZ ops m z n = true) : RegOkZ ops m z n := by
  unfold regZ at h
  simp only [Bool.and_eq_true, decide_eq_true_eq, List.all_eq_true, List.mem_range, Bool.or_eq_true, beq_iff_eq] at h
  obtain ⟨⟨⟨⟨⟨⟨⟨⟨⟨h1, hz⟩, h2⟩, h3⟩, h4⟩, h5⟩, h6⟩, h7⟩, h8⟩, h9⟩ := h
  refine ⟨h1, hz, fun i o hi ho => ?_, fun i o ho e he hb => ?_, fun j hj hjz => ?_, fun k hk hk1 => ?_, h6, h7, h8, fun o ho => ?_⟩
  · have := h2 i hi
    unfold mainB at this
    rw [ho] at this
    simp only [Bool.and_eq_true] at this
    obtain ⟨⟨⟨a1, a2⟩, a3⟩, a4⟩ := this
    cases ht : o.dst with
    | none => rw [ht] at a1; cases a1
    | some t =>
      rw [ht] at a1
      simp only [Bool.and_eq_true, decide_eq_true_eq, List.all_eq_true, List.mem_range, bne_iff_ne, ne_eq] at a1
      refine ⟨t, rfl, a1.1, a1.2, by simpa using a2, fun s hs j hj hd => ?_, fun g b hg => ?_⟩
      · rw [Array.all_eq_true] at a3
        obtain ⟨q, hq, hqs⟩ := Array.mem_iff_getElem.1 hs
        have := a3 q hq
        rw [hqs] at this
        simp only [List.all_eq_true, List.mem_range, Bool.or_eq_true, bne_iff_ne, ne_eq, Bool.and_eq_true, decide_eq_true_eq] at this
        exact (this j hj).resolve_left (fun h => h hd)
      · rw [hg] at a4
        simpa using a4
  · have hi : i < ops.size := (Array.getElem?_eq_some_iff.1 ho).1
    have := h3 i hi
    unfold downB at this
    rw [ho] at this
    simp only [Array.all_eq_true] at this
    obtain ⟨k, hk, rfl⟩ := Array.mem_iff_getElem.1 he
    have := this k hk
    rw [hb] at this
    simpa using this
  · obtain ⟨k, o, k1, k2, kz, k3, k4⟩ := upZ_out ((h4 j hj).resolve_left hjz)
    exact ⟨k, o, by omega, k2, kz, k3, k4⟩
  · have := h5 (k - m) (by omega)
    rw [show m + (k - m) = k from by omega] at this
    obtain ⟨q, o, k1, k2, k3, k4⟩ := upB_out this
    obtain rfl : q = k + 1 := by omega
    exact ⟨o, k3, k4⟩
  · rw [ho] at h9
    simp only [Bool.and_eq_true, Option.isNone_iff_eq_none] at h9
    exact h9
theorem dst_injZ {ops : Array Oper} {m z n : Nat} (h : RegOkZ ops m z n) {i j : Nat} {t : Tmp} (im : i < m) (jm : j < m) (hi : dstOf ops i = some t) (hj : dstOf ops j = some t) : i = j := by
  have key : ∀ i j, j < m → dstOf ops i = some t → dstOf ops j = some t → i < j → False := by
    intro i j jm hi hj hlt
    obtain ⟨o, ho, hd⟩ := dstOf_some hj
    obtain ⟨s, hs, _, hne, _⟩ := h.main j o jm ho
    rw [hd] at hs
    injection hs with hs
    subst hs
    exact hne i hlt hi
  rcases Nat.lt_trichotomy i j with hlt | heq | hlt
  · exact (key i j jm hi hj hlt).elim
  · exact heq
  · exact (key j i im hj hi hlt).elim
theorem all_beforeZ {ops : Array Oper} {m z n : Nat} (h : RegOkZ ops m z n) {listed : Array Bool} (hd : ∀ i o, ops[i]? = some o → listed.getD i false = true → ∀ e ∈ o.after, Region.binds .any e = true → listed.getD e.on false = true)
    {k : Nat} {ok : Oper} (hk : m ≤ k) (hok : ops[k]? = some ok) (hr : ∀ e ∈ ok.after, Region.binds .any e = true → listed.getD e.on false = true) : ∀ d j, j + d + 1 = k → j ≠ z → listed.getD j false = true := by
  have hks : k < ops.size := (Array.getElem?_eq_some_iff.1 hok).1
  intro d
  induction d using Nat.strongRecOn with
  | _ d ih =>
    intro j hj hjz
    have zlt := h.zlt
    have : ∃ q o, j < q ∧ q ≤ k ∧ q ≠ z ∧ ops[q]? = some o ∧ hasOn o j = true := by
      by_cases jm : j < m
      · obtain ⟨q, o, q1, q2, qz, q3⟩ := h.up j jm hjz
        exact ⟨q, o, q1, by omega, qz, q3⟩
      · obtain ⟨o, ho, hh⟩ := h.tail j (by omega) (by omega)
        exact ⟨j + 1, o, by omega, by omega, by omega, ho, hh⟩
    obtain ⟨q, o, q1, q2, qz, q3, q4⟩ := this
    obtain ⟨e, he, heo, heb⟩ := hasOn_mem q4
    rw [← heo]
    by_cases e1 : q = k
    · subst e1
      rw [hok] at q3
      injection q3 with q3
      subst q3
      exact hr e he heb
    · exact hd q o q3 (ih (k - q - 1) (by omega) q (by omega) qz) e he heb
section
variable {P : Program} {Q : Exit → Act → World → Prop}
theorem tail_anyZ {ops : Array Oper} {m z n : Nat} (h : RegOkZ ops m z n) : ∀ (fuel k : Nat) (listed : Array Bool) (a : Act) (w : World), m ≤ k → k ≤ ops.size → listed.size = ops.size →
    (∀ i, i < ops.size → listed.getD i false = decide (i < k)) → ops.size - k ≤ fuel → wpList P ops Q (ops.toList.drop k) a w → wpAny P .any ops Q fuel listed a w := by
  intro fuel
  have hnil : ∀ (k : Nat) (listed : Array Bool), listed.size = ops.size → (∀ i, i < ops.size → listed.getD i false = decide (i < k)) → k ≤ ops.size → Region.ready .any ops listed = [] → k = ops.size := by
    intro k listed hs hl hk hr
    rcases Nat.lt_or_ge k ops.size with hlt | hge
    · exfalso
      have hm : k ∈ Region.ready .any ops listed := by
        rw [mem_ready]
        refine ⟨by rw [getD_ff (by omega), hl k hlt]; simp, ops[k], Array.getElem?_eq_getElem hlt, fun e he hb => ?_⟩
        have := h.down k _ (Array.getElem?_eq_getElem hlt) e he hb
        rw [hl _ (by omega)]
        simpa using this
      rw [hr] at hm
      cases hm
    · omega
  induction fuel with
  | zero =>
    intro k listed a w hmk hk hs hl hf hw
    obtain rfl : k = ops.size := by omega
    have hd : ops.toList.drop ops.size = [] := by simp
    rw [hd] at hw
    refine ⟨?_, hw⟩
    unfold Region.ready
    rw [List.filter_eq_nil_iff]
    intro i hi
    have hi := List.mem_range.1 hi
    rw [getD_ff (by omega), hl i hi]
    simp [hi]
  | succ fuel ih =>
    intro k listed a w hmk hk hs hl hf hw
    refine ⟨fun hr => ?_, fun i hi => ?_⟩
    · obtain rfl := hnil k listed hs hl hk hr
      have hd : ops.toList.drop ops.size = [] := by simp
      rw [hd] at hw
      exact hw
    · rw [mem_ready] at hi
      obtain ⟨hn, o, ho, hall⟩ := hi
      have his : i < ops.size := (Array.getElem?_eq_some_iff.1 ho).1
      rw [getD_ff (by omega), hl i his] at hn
      have hik : k ≤ i := by simpa using hn
      have hki : i ≤ k := by
        rcases Nat.lt_or_ge k i with hlt | hge
        · exfalso
          have := all_beforeZ h (listed := listed) (fun q oq hq hlq e he hb => by
            have hqs : q < ops.size := (Array.getElem?_eq_some_iff.1 hq).1
            have h1 := h.down q oq hq e he hb
            rw [hl q hqs] at hlq
            rw [hl _ (by omega)]
            simp only [decide_eq_true_eq] at hlq ⊢
            omega) (by omega) ho hall (i - k - 1) k (by omega) (by have := h.zlt; omega)
          rw [hl k (by omega)] at this
          simp at this
        · exact hge
      obtain rfl : i = k := by omega
      have hdrop : ops.toList.drop i = o :: ops.toList.drop (i + 1) := by
        have : ops.toList[i]? = some o := by simpa using ho
        rw [List.drop_eq_getElem_cons (by simpa using his)]
        congr 1
        have e2 := (List.getElem?_eq_some_iff.1 this).2
        exact e2
      rw [hdrop] at hw
      have hnext : ∀ a w, wpList P ops Q (ops.toList.drop (i + 1)) a w → wpAny P .any ops Q fuel (listed.setIfInBounds i true) a w := by
        intro a w hw
        refine ih (i + 1) _ a w (by omega) (by omega) (by simpa using hs) (fun j hj => ?_) (by omega) hw
        rw [getD_set (by omega), hl j hj]
        by_cases e : j = i
        · subst e; simp
        · simp [e]; omega
      unfold wpOp
      rw [ho]
      simp only
      unfold wpList at hw
      split
      · rename_i hwant
        rw [if_pos hwant] at hw
        exact hw.imp (Oper.wp_mono hnext) id
      · rename_i hwant
        rw [if_neg hwant] at hw
        exact hnext _ _ hw
theorem extract_ways {ρ : Operand → Value} {o : Oper} (h : isExt o.op = true) : (∃ v, ∀ w, (execOp ρ o).run P w = .ok (.value v) w) ∨ ∀ w n w', (execOp ρ o).run P w ≠ .ok n w' := by
  obtain ⟨dst, op, ty, pos, after, g⟩ := o
  cases op <;> simp only [isExt] at h <;> try cases h
  rename_i t ix
  simp only [execOp, Instr.extract]
  cases hv : ρ t
  case tuple vs =>
    cases hx : vs[ix]? with
    | none => right; intro w n w'; simp [hx]
    | some v => left; exact ⟨v, fun w => by simp [hx]⟩
  all_goals right; intro w n w'; simp
theorem region_z {id : Nat} {l : List Oper} {a : Act} {w : World} (m z : Nat) (hm : P.follows .mixedOrders = true) (hchk : regZ l.toArray m z a.tmps.size = true) (hQ : ∀ (t : Tmp) v c a w, Q (.panic c) (Act.put a (some t) v) w → Q (.panic c) a w)
    (hobs : ObsK P l.toArray a w (fun ks => ∀ W, Below w.heap.size w W → finOn W ks (fun a' => wpList P l.toArray Q (l.drop m) a' W) a) [] (l.take m)) :
    (Code.region id l.toArray true).wp P Q a w := by
  have R := regZ_out hchk
  obtain ⟨ops, hops⟩ : ∃ ops, l.toArray = ops := ⟨_, rfl⟩
  have hl' : l = ops.toList := by rw [← hops]
  rw [hops] at hobs R ⊢
  rw [hl'] at hobs
  clear hops hl' hchk
  obtain ⟨Ks, kz, hz0, hfin, hall⟩ := hobs.out
  have hmlen : (ops.toList.take m).length = m := by simp [R.le]
  rw [hmlen] at hfin
  have hat : ∀ i o, i < m → ops[i]? = some o → (ops.toList.take m)[i]? = some o := fun i o hi ho => by
    rw [List.getElem?_take, if_pos hi]; simpa using ho
  have hta : ∀ i o, (ops.toList.take m)[i]? = some o → i < m ∧ ops[i]? = some o := fun i o ho => by
    rw [List.getElem?_take] at ho
    split at ho
    · exact ⟨‹_›, by simpa using ho⟩
    · cases ho
  have hall2 : ∀ i o, (ops.toList.take m)[i]? = some o → ∃ t, o.dst = some t ∧ kz (i + 1) = (t, Ks i) :: kz i := fun i o ho => by
    obtain ⟨t, h1, _, _, h2⟩ := hall i o ho
    exact ⟨t, h1, h2⟩
  have hmem : ∀ i, i ≤ m → ∀ t K, (t, K) ∈ kz i → ∃ j, j < i ∧ dstOf ops j = some t ∧ K = Ks j := fun i hi t K hm => by
    obtain ⟨j, o, h1, h2, h3, h4⟩ := kz_mem hz0 hall2 i (by omega) t K hm
    obtain ⟨_, ho⟩ := hta j o h2
    exact ⟨j, h1, by unfold dstOf; rw [ho]; exact h3, h4⟩
  refine wp_region_any hm ?_
  have hd : ∀ i o, ops[i]? = some o → dstOf ops i = o.dst := fun i o ho => by unfold dstOf; rw [ho]; rfl
  have hend : ∀ (listed : Array Bool) (a' : Act) (w' : World), RInv ops a w Ks m listed a' w' → (∀ j, j < m → listed.getD j false = true) → wpList P ops Q (ops.toList.drop m) a' w' := by
    intro listed a' w' hI hlst
    obtain ⟨b, hb, e1, e2, e3, e4⟩ := finOn.out (a' := a') (hfin w' hI.below) hI.size.symm (fun t K hm => by
      obtain ⟨j, hj, hdj, rfl⟩ := hmem m (Nat.le_refl _) t K hm
      obtain ⟨o, ho, hod⟩ := dstOf_some hdj
      obtain ⟨s, hs, hsn, _⟩ := R.main j o hj ho
      rw [hod] at hs
      injection hs with hs
      subst hs
      exact ⟨by rw [hI.size]; exact hsn, hI.val j t hj (hlst j hj) hdj⟩)
    have : b = a' := by
      cases b with
      | mk bt bd =>
        cases a' with
        | mk at' ad =>
          simp only at e1 e2 e3 e4
          have hdf : bd = ad := by rw [e2]; exact hI.defers.symm
          have htm : bt = at' := by
            apply Array.ext
            · rw [e1]; exact hI.size.symm
            · intro t t1 t2
              have : bt.getD t undef = at'.getD t undef := by
                by_cases hx : ∃ K, (t, K) ∈ kz m
                · exact e4 t hx
                · rw [e3 t (fun K hm => hx ⟨K, hm⟩)]
                  refine (hI.other t fun j hj hdj => hx ?_).symm
                  obtain ⟨o, ho, hod⟩ := dstOf_some hdj
                  exact ⟨Ks j, kz_all hall2 m (by omega) j o t hj (hat j o hj ho) hod⟩
              simpa only [Array.getD_eq_getD_getElem?, Array.getElem?_eq_getElem t1, Array.getElem?_eq_getElem t2, Option.getD_some] using this
          subst hdf htm
          rfl
    rw [this] at hb
    exact hb
  have key : ∀ (fuel : Nat) (listed : Array Bool) (a' : Act) (w' : World), RInv ops a w Ks m listed a' w' → (∀ i, m ≤ i → i < ops.size → listed.getD i false = false) →
      ((List.range ops.size).filter fun i => !listed.getD i true).length ≤ fuel → wpAny P .any ops Q fuel listed a' w' := by
    intro fuel
    have hprefix : ∀ (listed : Array Bool), listed.size = ops.size → (∀ j, j < m → listed.getD j false = true) → (∀ i, m ≤ i → i < ops.size → listed.getD i false = false) → ∀ i, i < ops.size → listed.getD i false = decide (i < m) := by
      intro listed hs h1 h2 i hi
      by_cases e : i < m
      · rw [h1 i e]; simp [e]
      · rw [h2 i (by omega) hi]; simp [e]
    induction fuel with
    | zero =>
      intro listed a' w' hI hno hc
      have h0 : ((List.range ops.size).filter fun i => !listed.getD i true) = [] := List.eq_nil_of_length_eq_zero (by omega)
      have hal : ∀ i, i < ops.size → listed.getD i false = true := by
        intro i hi
        rw [List.filter_eq_nil_iff] at h0
        have := h0 i (List.mem_range.2 hi)
        rw [← getD_ff (by rw [hI.lsize]; exact hi)]
        simpa using this
      have hms : m = ops.size := by
        rcases Nat.lt_or_ge m ops.size with hlt | hge
        · have := hno m (Nat.le_refl _) hlt
          rw [hal m hlt] at this
          cases this
        · have := R.le; omega
      have := hend listed a' w' hI (fun j hj => hal j (by omega))
      rw [hms] at this
      have hdr : ops.toList.drop ops.size = [] := by simp
      rw [hdr] at this
      refine ⟨?_, this⟩
      unfold Region.ready
      rw [List.filter_eq_nil_iff] at h0 ⊢
      intro i hi
      have := h0 i hi
      simp only [Bool.not_eq_true] at this ⊢
      rw [this]
      rfl
    | succ fuel ih =>
      intro listed a' w' hI hno hc
      by_cases hdone : ∀ j, j < m → listed.getD j false = true
      · refine tail_anyZ R (fuel + 1) m listed a' w' (Nat.le_refl _) R.le hI.lsize (hprefix listed hI.lsize hdone hno) ?_ (hend listed a' w' hI hdone)
        have hlen : ops.size - m ≤ ((List.range ops.size).filter fun i => !listed.getD i true).length := by
          have hsub : (List.range ops.size).filter (fun i => decide (m ≤ i)) = (List.range ops.size).filter fun i => !listed.getD i true := by
            apply List.filter_congr
            intro i hi
            have hi := List.mem_range.1 hi
            rw [getD_ff (by rw [hI.lsize]; exact hi), hprefix listed hI.lsize hdone hno i hi]
            by_cases e : i < m <;> simp [e] <;> omega
          rw [← hsub]
          have : ∀ N, m ≤ N → ((List.range N).filter fun i => decide (m ≤ i)).length = N - m := by
            intro N hN
            induction N with
            | zero => simp
            | succ N ihN =>
              rw [List.range_succ, List.filter_append, List.length_append]
              by_cases e : m ≤ N
              · rw [ihN e]; simp [e]; omega
              · have : m = N + 1 := by omega
                subst this
                have : (List.range N).filter (fun i => decide (N + 1 ≤ i)) = [] := by
                  rw [List.filter_eq_nil_iff]
                  intro i hi
                  have := List.mem_range.1 hi
                  simp; omega
                rw [this]
                simp
          rw [this _ R.le]
          exact Nat.le_refl _
        omega
      · by_cases hzz : ∀ j, j < m → j ≠ z → listed.getD j false = true
        · have zlt := R.zlt
          have zs : z < ops.size := by have := R.le; omega
          have hlz : listed.getD z false = false := by
            cases hlz : listed.getD z false with
            | false => rfl
            | true => exact absurd (fun j hj => by by_cases e : j = z; · rw [e]; exact hlz
                                                   · exact hzz j hj e) hdone
          have hlst : listed = lateL m z ops.size := by
            apply Array.ext
            · rw [hI.lsize]; simp [lateL]
            · intro q q1 q2
              have qs : q < ops.size := by rw [← hI.lsize]; exact q1
              have e1 : listed[q] = listed.getD q false := by simp [Array.getD_eq_getD_getElem?, Array.getElem?_eq_getElem q1]
              rw [e1]
              simp only [lateL, Array.getElem_ofFn]
              by_cases qm : q < m
              · by_cases qz : q = z
                · subst qz; rw [hlz]; simp
                · rw [hzz q qm qz]; simp [qm, qz]
              · rw [hno q (by omega) qs]; simp [qm]
          have ho : ops[z]? = some ops[z] := Array.getElem?_eq_getElem zs
          obtain ⟨o, hoo⟩ : ∃ o, ops[z] = o := ⟨_, rfl⟩
          rw [hoo] at ho
          have hnl' : listed.getD z true = false := by rw [getD_ff (by rw [hI.lsize]; exact zs)]; exact hlz
          have hrd0 : z ∈ Region.ready .any ops listed := by have := R.rdy; rw [← hlst] at this; simpa using this
          obtain ⟨_, o', ho', haf⟩ := mem_ready.1 hrd0
          rw [ho] at ho'
          injection ho' with ho'
          subst ho'
          obtain ⟨hext, hgn⟩ := R.ext o ho
          have him := zlt
          have his := zs
          have hsi : z < listed.size := by rw [hI.lsize]; exact zs
          obtain ⟨t, ht, htn, hne, hsel, hrd, hgd⟩ := R.main z o him ho
          obtain ⟨t', ht', hok, hob, hkz⟩ := hall z o (hat z o him ho)
          have hon : ∀ j, hasOn o j = true → listed.getD j false = true := fun j hj => by
            obtain ⟨e, he, heo, heb⟩ := hasOn_mem hj
            rw [← heo]
            exact haf e he heb
          have hnext : ∀ v w'', (Ks z).holds w'' v → Below w'.heap.size w' w'' → wpAny P .any ops Q fuel (listed.setIfInBounds z true) (a'.put o.dst v) w'' := by
            intro v w'' hv hb
            refine ih _ _ _ ⟨by simpa using hI.lsize, ?_, ?_, below_then hI.below hb, ?_, ?_, ?_⟩ ?_ ?_
            · rw [ht]; exact hI.defers
            · rw [ht]; simpa [Act.put] using hI.size
            · intro s hs
              have hst : s ≠ t := fun e => hs z him (by rw [hd z _ ho, ht, e])
              rw [ht, put_getD (by rw [hI.size]; exact htn), if_neg hst]
              exact hI.other s hs
            · intro j s hjm hj hdj
              rw [getD_set hsi] at hj
              rw [ht, put_getD (by rw [hI.size]; exact htn)]
              by_cases e : j = z
              · subst e
                have : s = t := by rw [hd j _ ho, ht] at hdj; injection hdj with hdj; exact hdj.symm
                rw [if_pos this]
                exact hv
              · rw [if_neg e] at hj
                have hst : s ≠ t := fun e2 => e (dst_injZ R hjm him hdj (by rw [hd z _ ho, ht, e2]))
                rw [if_neg hst]
                obtain ⟨oj, hoj, hdoj⟩ := dstOf_some hdj
                obtain ⟨_, _, hokj, _, _⟩ := hall j oj (hat j oj hjm hoj)
                exact Kd.keep hokj (hI.val j s hjm hj hdj) hb
            · intro q oq hq hlq e he hb
              rw [getD_set hsi] at hlq ⊢
              by_cases e1 : q = z
              · subst e1
                rw [ho] at hq
                injection hq with hq
                subst hq
                split
                · rfl
                · exact haf e he hb
              · rw [if_neg e1] at hlq
                split
                · rfl
                · exact hI.down q oq hq hlq e he hb
            · intro q hq hqs
              rw [getD_set hsi, if_neg (by omega)]
              exact hno q hq hqs
            · have hnl : (!listed.getD z true) = true := by rw [hnl']; rfl
              have hlt : ((List.range ops.size).filter fun k => !(listed.setIfInBounds z true).getD k true).length < ((List.range ops.size).filter fun k => !listed.getD k true).length := by
                have hsub : ((List.range ops.size).filter fun k => !(listed.setIfInBounds z true).getD k true) = (((List.range ops.size).filter fun k => !listed.getD k true).filter fun k => k != z) := by
                  rw [List.filter_filter]
                  apply List.filter_congr
                  intro k _
                  rw [getD_set hsi]
                  by_cases e : k = z
                  · subst e; simp
                  · simp [e]
                rw [hsub]
                exact List.length_filter_lt_length_iff_exists.2 ⟨z, List.mem_filter.2 ⟨List.mem_range.2 his, hnl⟩, by simp⟩
              omega
          have hlook : ∀ s K, lookK (kz z) s = some K → ∃ j, j < z ∧ dstOf ops j = some s ∧ K = Ks j := fun s K hK => hmem z (by omega) s K (lookK_some hK)
          have hgo : ∀ W, Below w.heap.size w W → leanOn (kz z) W o.op.operands.toList (Goes P (Ks z) o W) a := by
            rcases hob with ⟨_, hgo⟩ | ⟨hwk, _⟩
            · exact hgo
            · rw [hgn] at hwk; cases hwk
          obtain ⟨b, hb, b1, b2, b3, b4⟩ := leanOn.out (a' := a') (hgo w' hI.below) hI.size.symm (fun s K hs hK => by
            obtain ⟨j, hj, hdj, rfl⟩ := hlook s K hK
            obtain ⟨o2, ho2, hod2⟩ := dstOf_some hdj
            obtain ⟨s2, hs2, hsn, _⟩ := R.main j o2 (by omega) ho2
            rw [hod2] at hs2
            injection hs2 with hs2
            subst hs2
            obtain ⟨ha, _⟩ := hrd s (by simpa using hs) j (by omega) hdj
            exact ⟨by rw [hI.size]; exact hsn, hI.val j s (by omega) (hon j ha) hdj⟩)
          have heq : execOp a'.eval o = execOp b.eval o := by
            refine execOp_congr o (fun cs bb hc => by rw [hc] at hsel; cases hsel) fun x hx => ?_
            cases x with
            | tmp s =>
              show a'.tmps.getD s undef = b.tmps.getD s undef
              by_cases hks : ∃ K, lookK (kz z) s = some K
              · obtain ⟨K, hK⟩ := hks
                exact (b4 s ⟨K, hK, by simpa using hx⟩).symm
              · have ho2 : ∀ j, j < m → dstOf ops j ≠ some s := by
                  intro j hj hdj
                  obtain ⟨_, hji⟩ := hrd s hx j hj hdj
                  obtain ⟨oj, hoj, hdoj⟩ := dstOf_some hdj
                  have := kz_all hall2 z (by omega) j oj s hji (hat j oj hj hoj) hdoj
                  cases hl : lookK (kz z) s with
                  | some K => exact hks ⟨K, hl⟩
                  | none => exact lookK_none hl _ this
                have e0 := hI.other s ho2
                rcases b3 s with e | e
                · rw [e, e0]
                · exact e.symm
            | const _ => rfl
            | global _ => rfl
            | func _ => rfl
          have hgoes := hb.out
          have hy : ∃ v, (∀ w, (execOp b.eval o).run P w = .ok (.value v) w) ∧ (Ks z).holds w' v := by
            rcases extract_ways (P := P) (ρ := b.eval) hext with ⟨v, hall'⟩ | hnone
            · rw [hall' w'] at hgoes
              exact ⟨v, hall', hgoes.1⟩
            · exfalso
              cases hr : (execOp b.eval o).run P w' with
              | ok n w'' => exact hnone _ _ _ hr
              | halt x w'' => rw [hr] at hgoes; exact hgoes.elim
          obtain ⟨v, hrun, hv⟩ := hy
          refine wpAny_take ho R.nosel (by rw [hlst]; exact R.free) (by rw [hlst]; exact R.rdy) (fun c a w h => hQ t _ c a w (by rw [← ht]; exact h)) (v := v) (.inl ⟨by unfold Region.wanted; rw [hgn], fun w => by rw [heq]; exact hrun w⟩) ?_
          exact hnext v w' hv (Below.refl _ _)
        · refine ⟨fun hr => ?_, fun i hi => ?_⟩
          · exfalso
            refine hdone ?_
            intro j
            induction j using Nat.strongRecOn with
            | _ j ihj =>
              intro hj
              cases hlj : listed.getD j false with
              | true => rfl
              | false =>
                exfalso
                have hjs : j < ops.size := by have := R.le; omega
                have hmem : j ∈ Region.ready .any ops listed := by
                  rw [mem_ready]
                  refine ⟨by rw [getD_ff (by rw [hI.lsize]; exact hjs)]; exact hlj, ops[j], Array.getElem?_eq_getElem hjs, fun e he hb => ?_⟩
                  have := R.down j _ (Array.getElem?_eq_getElem hjs) e he hb
                  exact ihj _ this (by omega)
                rw [hr] at hmem
                cases hmem
          · have hi0 := hi
            rw [mem_ready] at hi
            obtain ⟨hnl', o, ho, haf⟩ := hi
            have his : i < ops.size := (Array.getElem?_eq_some_iff.1 ho).1
            have hsi : i < listed.size := by rw [hI.lsize]; exact his
            have him : i < m := by
              rcases Nat.lt_or_ge i m with hlt | hge
              · exact hlt
              · exact absurd (fun j hj hjz => all_beforeZ R hI.down hge ho haf (i - j - 1) j (by omega) hjz) hzz
            obtain ⟨t, ht, htn, hne, hsel, hrd, hgd⟩ := R.main i o him ho
            obtain ⟨t', ht', hok, hob, hkz⟩ := hall i o (hat i o him ho)
            have hon : ∀ j, hasOn o j = true → listed.getD j false = true := fun j hj => by
              obtain ⟨e, he, heo, heb⟩ := hasOn_mem hj
              rw [← heo]
              exact haf e he heb
            have hnext : ∀ v w'', (Ks i).holds w'' v → Below w'.heap.size w' w'' → wpAny P .any ops Q fuel (listed.setIfInBounds i true) (a'.put o.dst v) w'' := by
              intro v w'' hv hb
              refine ih _ _ _ ⟨by simpa using hI.lsize, ?_, ?_, below_then hI.below hb, ?_, ?_, ?_⟩ ?_ ?_
              · rw [ht]; exact hI.defers
              · rw [ht]; simpa [Act.put] using hI.size
              · intro s hs
                have hst : s ≠ t := fun e => hs i him (by rw [hd i _ ho, ht, e])
                rw [ht, put_getD (by rw [hI.size]; exact htn), if_neg hst]
                exact hI.other s hs
              · intro j s hjm hj hdj
                rw [getD_set hsi] at hj
                rw [ht, put_getD (by rw [hI.size]; exact htn)]
                by_cases e : j = i
                · subst e
                  have : s = t := by rw [hd j _ ho, ht] at hdj; injection hdj with hdj; exact hdj.symm
                  rw [if_pos this]
                  exact hv
                · rw [if_neg e] at hj
                  have hst : s ≠ t := fun e2 => e (dst_injZ R hjm him hdj (by rw [hd i _ ho, ht, e2]))
                  rw [if_neg hst]
                  obtain ⟨oj, hoj, hdoj⟩ := dstOf_some hdj
                  obtain ⟨_, _, hokj, _, _⟩ := hall j oj (hat j oj hjm hoj)
                  exact Kd.keep hokj (hI.val j s hjm hj hdj) hb
              · intro q oq hq hlq e he hb
                rw [getD_set hsi] at hlq ⊢
                by_cases e1 : q = i
                · subst e1
                  rw [ho] at hq
                  injection hq with hq
                  subst hq
                  split
                  · rfl
                  · exact haf e he hb
                · rw [if_neg e1] at hlq
                  split
                  · rfl
                  · exact hI.down q oq hq hlq e he hb
              · intro q hq hqs
                rw [getD_set hsi, if_neg (by omega)]
                exact hno q hq hqs
              · have hnl : (!listed.getD i true) = true := by rw [hnl']; rfl
                have hlt : ((List.range ops.size).filter fun k => !(listed.setIfInBounds i true).getD k true).length < ((List.range ops.size).filter fun k => !listed.getD k true).length := by
                  have hsub : ((List.range ops.size).filter fun k => !(listed.setIfInBounds i true).getD k true) = (((List.range ops.size).filter fun k => !listed.getD k true).filter fun k => k != i) := by
                    rw [List.filter_filter]
                    apply List.filter_congr
                    intro k _
                    rw [getD_set hsi]
                    by_cases e : k = i
                    · subst e; simp
                    · simp [e]
                  rw [hsub]
                  exact List.length_filter_lt_length_iff_exists.2 ⟨i, List.mem_filter.2 ⟨List.mem_range.2 his, hnl⟩, by simp⟩
                omega
            have hlook : ∀ s K, lookK (kz i) s = some K → ∃ j, j < i ∧ dstOf ops j = some s ∧ K = Ks j := fun s K hK => hmem i (by omega) s K (lookK_some hK)
            unfold wpOp
            rw [ho]
            rcases hob with ⟨hwk, hgo⟩ | ⟨hwk, hskip⟩
            · have hw : Region.wanted o (yielded ops a'.tmps) = true := by
                unfold Region.wanted
                cases hg : o.guard with
                | none => rfl
                | some gb =>
                  obtain ⟨g, b⟩ := gb
                  rw [hg] at hwk
                  unfold wantK at hwk
                  simp only at hwk
                  cases hdg : dstOf ops g with
                  | none => rw [hdg] at hwk; cases hwk
                  | some s =>
                    rw [hdg] at hwk
                    cases hlk : lookK (kz i) s with
                    | none => simp only [hlk] at hwk; cases hwk
                    | some K =>
                      simp only [hlk] at hwk
                      split at hwk
                      · rename_i hKe
                        injection hKe with hKe
                        subst hKe
                        rename_i c
                        obtain ⟨j, hj, hdj, hKj⟩ := hlook s _ hlk
                        obtain ⟨hong, hgi⟩ := hgd g b hg
                        obtain rfl := dst_injZ R (by omega) (by omega) hdj hdg
                        have hv := hI.val j s (by omega) (hon j hong) hdj
                        rw [← hKj] at hv
                        have hy : yielded ops a'.tmps j = some c := by
                          have hv' : a'.tmps.getD s undef = .bool c := hv
                          unfold yielded
                          unfold dstOf at hdj
                          rw [hdj]
                          rw [Array.getD_eq_getD_getElem?] at hv'
                          cases hx : a'.tmps[s]? with
                          | none => rw [hx] at hv'; exact absurd hv' (by simp [undef])
                          | some x =>
                            rw [hx] at hv'
                            simp only [Option.getD_some] at hv'
                            subst hv'
                            simp [hx]
                        simp only [hy]
                        injection hwk
                      · cases hwk
              simp only [hw, if_true]
              refine .inl ?_
              obtain ⟨b, hb, b1, b2, b3, b4⟩ := leanOn.out (a' := a') (hgo w' hI.below) hI.size.symm (fun s K hs hK => by
                obtain ⟨j, hj, hdj, rfl⟩ := hlook s K hK
                obtain ⟨o2, ho2, hod2⟩ := dstOf_some hdj
                obtain ⟨s2, hs2, hsn, _⟩ := R.main j o2 (by omega) ho2
                rw [hod2] at hs2
                injection hs2 with hs2
                subst hs2
                obtain ⟨ha, _⟩ := hrd s (by simpa using hs) j (by omega) hdj
                exact ⟨by rw [hI.size]; exact hsn, hI.val j s (by omega) (hon j ha) hdj⟩)
              have heq : execOp a'.eval o = execOp b.eval o := by
                refine execOp_congr o (fun cs bb hc => by rw [hc] at hsel; cases hsel) fun x hx => ?_
                cases x with
                | tmp s =>
                  show a'.tmps.getD s undef = b.tmps.getD s undef
                  by_cases hks : ∃ K, lookK (kz i) s = some K
                  · obtain ⟨K, hK⟩ := hks
                    exact (b4 s ⟨K, hK, by simpa using hx⟩).symm
                  · have ho2 : ∀ j, j < m → dstOf ops j ≠ some s := by
                      intro j hj hdj
                      obtain ⟨_, hji⟩ := hrd s hx j hj hdj
                      obtain ⟨oj, hoj, hdoj⟩ := dstOf_some hdj
                      have := kz_all hall2 i (by omega) j oj s hji (hat j oj hj hoj) hdoj
                      cases hl : lookK (kz i) s with
                      | some K => exact hks ⟨K, hl⟩
                      | none => exact lookK_none hl _ this
                    have e0 := hI.other s ho2
                    rcases b3 s with e | e
                    · rw [e, e0]
                    · exact e.symm
                | const _ => rfl
                | global _ => rfl
                | func _ => rfl
              have hgoes := hb.out
              unfold Oper.wp
              rw [heq]
              generalize (execOp b.eval o).run P w' = r at hgoes
              cases r with
              | ok n w'' =>
                cases n <;> simp only [OpGoes] at hgoes <;> try exact hgoes.elim
                case value v => exact hnext v w'' hgoes.1 hgoes.2
                case enter f args =>
                  refine Calls.mono hgoes ?_
                  rintro e w3 ⟨v, rfl, hv, hb⟩
                  exact hnext v w3 hv hb
              | halt x w'' => exact hgoes.elim
            · have hw : Region.wanted o (yielded ops a'.tmps) = false := by
                unfold Region.wanted
                cases hg : o.guard with
                | none => rw [hg] at hwk; cases hwk
                | some gb =>
                  obtain ⟨g, b⟩ := gb
                  rw [hg] at hwk
                  unfold wantK at hwk
                  simp only at hwk
                  cases hdg : dstOf ops g with
                  | none => rw [hdg] at hwk; cases hwk
                  | some s =>
                    rw [hdg] at hwk
                    cases hlk : lookK (kz i) s with
                    | none => simp only [hlk] at hwk; cases hwk
                    | some K =>
                      simp only [hlk] at hwk
                      split at hwk
                      · rename_i hKe
                        injection hKe with hKe
                        subst hKe
                        rename_i c
                        obtain ⟨j, hj, hdj, hKj⟩ := hlook s _ hlk
                        obtain ⟨hong, hgi⟩ := hgd g b hg
                        obtain rfl := dst_injZ R (by omega) (by omega) hdj hdg
                        have hv := hI.val j s (by omega) (hon j hong) hdj
                        rw [← hKj] at hv
                        have hy : yielded ops a'.tmps j = some c := by
                          have hv' : a'.tmps.getD s undef = .bool c := hv
                          unfold yielded
                          unfold dstOf at hdj
                          rw [hdj]
                          rw [Array.getD_eq_getD_getElem?] at hv'
                          cases hx : a'.tmps[s]? with
                          | none => rw [hx] at hv'; exact absurd hv' (by simp [undef])
                          | some x =>
                            rw [hx] at hv'
                            simp only [Option.getD_some] at hv'
                            subst hv'
                            simp [hx]
                        simp only [hy]
                        injection hwk
                      · cases hwk
              simp only [hw]
              exact hnext _ _ (by rw [hskip]; rfl) (Below.refl _ _)
  refine key ops.size _ a _ ⟨by simp, rfl, rfl, Below.drew (Below.refl _ _), fun _ _ => rfl, fun j t _ hj => ?_, fun i o _ hj => ?_⟩ ?_ ?_
  · exfalso
    revert hj
    simp only [Array.getD_eq_getD_getElem?, Array.getElem?_replicate]
    split <;> simp
  · exfalso
    revert hj
    simp only [Array.getD_eq_getD_getElem?, Array.getElem?_replicate]
    split <;> simp
  · intro i _ hi
    simp [Array.getD_eq_getD_getElem?, Array.getElem?_replicate, hi]
  · exact Nat.le_trans (List.length_filter_le _ _) (by simp)
end
set_option maxHeartbeats 4000000
def isArr (B m : Nat) (cs : Array Value) (t : TypeId) : World → Value → Prop := fun W v => ∃ g, v = .slice (some ⟨g, 0, none⟩) m m ∧ B ≤ g ∧ Blk W g cs t
theorem st_isArr {B m : Nat} {cs : Array Value} {t : TypeId} : ∀ w w' v, isArr B m cs t w v → Below w.heap.size w w' → isArr B m cs t w' v := fun _ _ _ ⟨g, e, h, k⟩ hb => ⟨g, e, h, k.below hb⟩
theorem goes_arr {B m : Nat} {W : World} {cs : Array Value} {t : TypeId} (h : B ≤ W.heap.size) : OpGoes Try.prog (fun v w' => (Kd.p (isArr B m cs t)).holds w' v ∧ Below W.heap.size W w') (.ok (.value (.slice (some ⟨W.heap.size, 0, none⟩) m m)) (W.alloc (.cells cs t))) :=
  ⟨⟨_, rfl, h, blk_new W cs t _ rfl⟩, (Below.refl _ W).alloc (Nat.le_refl _) _⟩
def hdSg (s : Seg) : List UInt8 := (([] ++ twos [s.src, s.dst]) ++ fours [s.seq, s.ack]) ++ twos [s.flags, s.win, 0, s.urg]
theorem hdSg_len (s : Seg) : (hdSg s).length = 20 := by simp [hdSg, twos, fours, two, four]
theorem sL_of (s : Seg) (x : Int) (hx : ((20 + (optL s.opts).length : Nat) : Int) / 4 * 16 = x) : (hdSg s ++ optL s.opts).set 12 (ub x) ++ s.dat = sL s := by
  subst hx
  have h : ∀ z, (hdSg s ++ optL s.opts).set 12 z = two s.src ++ two s.dst ++ four s.seq ++ four s.ack ++ [z, ub s.flags] ++ two s.win ++ [0, 0] ++ two s.urg ++ optL s.opts := fun z => by
    simp [hdSg, twos, fours, two, four]
    decide
  rw [h]
  simp [sL]
def sS (p : Pkt) (s : Seg) : List UInt8 := put16 (sL s) 16 (psum p 6 (sL s))
def sbE (p : Pkt) (s : Seg) : Int := if okOs s.opts then wiE p (sN s) else 4
def sbP (p : Pkt) (s : Seg) : Pkt := if sbE p s = 0 then { p with proto := 6, dat := sS p s } else zP
theorem goes_cat2 {W : World} {n1 c1 n2 c2 : Nat} {A1 A2 : Option Addr} {l1 l2 : List UInt8} {T : TypeId} (k1 : Bs W A1 n1 c1 l1) (k2 : Bs W A2 n2 c2 l2) (h : n1 + n2 ≤ 200000000000000) :
    OpGoes Try.prog (fun v w' => (Kd.p (isC (l1 ++ l2))).holds w' v ∧ Below W.heap.size W w') (.ok (.value (.slice (some ⟨W.heap.size, 0, none⟩) 2 2)) (W.alloc (.cells #[.slice A1 n1 c1, .slice A2 n2 c2] T))) :=
  ⟨⟨isCat2' (blk_new W _ T _ rfl) (k1.alloc _) (k2.alloc _) h⟩, (Below.refl _ W).alloc (Nat.le_refl _) _⟩
theorem goes_tup {B : Nat} {P : Pkt} {E : Int} {C1 C2 : Option Addr} {e1 f1 e2 f2 : Nat} {w : World} (h1 : Own w B 5 C1 e1 f1 P.opt) (h2 : Own w B 5 C2 e2 f2 P.dat) :
    OpGoes Try.prog (fun v w' => (Kd.p (isTup B P E)).holds w' v ∧ Below w.heap.size w w') (.ok (.value (.tuple #[(.agg #[.int .u8 (P).tos, .int .u16 (P).id, .bool (P).keep, .int .u8 (P).ttl, .int .u8 (P).proto, .int .u32 (P).src, .int .u32 (P).dst, .slice C1 e1 f1, .slice C2 e2 f2]), .int .i64 E])) w) := ⟨⟨_, _, _, _, _, _, rfl, h1, h2⟩, Below.refl _ _⟩
theorem swith_all (p : Pkt) (A1 : Option Addr) (n1 c1 : Nat) (A2 : Option Addr) (n2 c2 : Nat) (pr : Int) (d : List UInt8) (P : Pkt) (E : Int) (hE : wiE p d.length = E) (hP : P = withP p pr d) (base : Nat) (A3 : Option Addr) (n3 c3 : Nat) (w : World) (k1 : Bs w A1 n1 c1 p.opt) (k3 : Own w base 5 A3 n3 c3 d) (hb : base ≤ w.heap.size) :
    Calls Try.prog 48 #[(.agg #[.int .u8 (p).tos, .int .u16 (p).id, .bool (p).keep, .int .u8 (p).ttl, .int .u8 (p).proto, .int .u32 (p).src, .int .u32 (p).dst, .slice A1 n1 c1, .slice A2 n2 c2]), .int .u8 pr, .slice A3 n3 c3] w (fun e w' => ∃ C1 e1 f1 C2 e2 f2, e = .returned (.tuple #[(.agg #[.int .u8 (P).tos, .int .u16 (P).id, .bool (P).keep, .int .u8 (P).ttl, .int .u8 (P).proto, .int .u32 (P).src, .int .u32 (P).dst, .slice C1 e1 f1, .slice C2 e2 f2]), .int .i64 E]) ∧ Own w' base 5 C1 e1 f1 P.opt ∧ Own w' base 5 C2 e2 f2 P.dat ∧ Below w.heap.size w w') := by
  have l3 := k3.len
  by_cases h : E = 0
  · have hp : P = { p with proto := pr, dat := d } := by rw [hP]; unfold withP; rw [hE, if_pos h]
    refine (swith_ok p A1 n1 c1 A2 n2 c2 pr A3 n3 c3 d w k1 k3.bs (by rw [← l3, hE, h])).mono ?_
    rintro e w' ⟨A4, n4, c4, rfl, O4, hB⟩
    rw [hp, h]
    exact ⟨A4, n4, c4, A3, n3, c3, rfl, O4.mono hb, k3.below hB, hB⟩
  · have hp : P = zP := by rw [hP]; unfold withP; rw [hE, if_neg h]
    refine (swith_bad p A1 n1 c1 A2 n2 c2 pr A3 n3 c3 d w k1 k3.bs (by rw [← l3, hE]; exact h)).mono ?_
    rintro e w' ⟨B1, m1, d1, B2, m2, d2, rfl, O1, O2, hB⟩
    rw [hp, ← hE, l3]
    exact ⟨B1, m1, d1, B2, m2, d2, rfl, O1.mono hb, O2.mono hb, hB⟩
theorem sbuild_any (p : Pkt) (hp : p.Ok) (X1 : Option Addr) (m1 j1 : Nat) (X2 : Option Addr) (m2 j2 : Nat) (s : Seg) (hs : s.Ok) (OA : Option Addr) (on oc : Nat) (DA : Option Addr) (dn dc : Nat) (w : World) (k1 : Bs w X1 m1 j1 p.opt) (K : Os w OA on oc s.opts) (kd : Bs w DA dn dc s.dat)
    (hdn : dn ≤ 140737488351232) : Calls Try.prog 18 #[(.agg #[.int .u8 (p).tos, .int .u16 (p).id, .bool (p).keep, .int .u8 (p).ttl, .int .u8 (p).proto, .int .u32 (p).src, .int .u32 (p).dst, .slice X1 m1 j1, .slice X2 m2 j2]), (.agg #[.int .u16 (s).src, .int .u16 (s).dst, .int .u32 (s).seq, .int .u32 (s).ack, .int .u8 (s).flags, .int .u16 (s).win, .int .u16 (s).urg, .slice OA on oc, .slice DA dn dc])] w (WiPost w (sbP p s) (sbE p s)) := by
  obtain ⟨⟨a0, a1⟩, ⟨d0, d1⟩, ⟨q0, q1⟩, ⟨r0, r1⟩, ⟨f0, f1⟩, ⟨v0, v1⟩, ⟨g0, g1⟩, -⟩ := hs
  have hTs : 77 ≠ 5 := by decide
  have hwf : IntKind.u16.wrap s.flags = s.flags := by rw [IntKind.wrap_u16]; omega
  have h77 : 26 ≠ 5 := by decide
  have h78 : 29 ≠ 5 := by decide
  obtain ⟨k, hk, w1, hw1, P1, S1, Z1, H1, R1⟩ := nwI4 w #[.int .u8 (p).tos, .int .u16 (p).id, .bool (p).keep, .int .u8 (p).ttl, .int .u8 (p).proto, .int .u32 (p).src, .int .u32 (p).dst, .slice X1 m1 j1, .slice X2 m2 j2] 26 #[.int .u16 (s).src, .int .u16 (s).dst, .int .u32 (s).seq, .int .u32 (s).ack, .int .u8 (s).flags, .int .u16 (s).win, .int .u16 (s).urg, .slice OA on oc, .slice DA dn dc] 29 #[.int .u8 0, .int .u16 0, .bool false, .int .u8 0, .int .u8 0, .int .u32 0, .int .u32 0, .slice none 0 0, .slice none 0 0] 26 #[.slice none 0 0, .bool false] 77
  have Pc1 := P1.cell
  have Sc1 := S1.cell
  have Zc1 := Z1.cell
  have Hc1 := H1.cell
  have Pl1 := P1.lt
  have Sl1 := S1.lt
  have Zl1 := Z1.lt
  have Hl1 := H1.lt
  go_enter Try.func18, Try.ntmps18
  go_wp2_with fail
  have hk1 : w.heap.size ≤ k := Nat.le_of_eq hk
  have hk2 : k ≤ w.heap.size := Nat.le_of_eq hk.symm
  clear hk hw1
  have sc1 := S1.cell
  have hc1 := H1.cell
  have hl1 := H1.lt
  have sl1 := S1.lt
  refine region_txt 8 (by kernel_rfl) (by kernel_rfl) ?_; (iterate 8 (first | (apply ObsK.skip (by rfl)) | (apply ObsK.v (by rfl); (intro wo hT; (repeat (first | (intro v hv; (fail)) | (intro _ _ k; try have hcv := cv k))); (have sc := (S1.below hT).cell; have hc := (H1.below hT).cell; have hsz : w1.heap.size ≤ wo.heap.size := hT.size); refine Goes.mk ?_; go_simp; first | exact goes_v | exact goes_b (by assumption) | exact goes_arr hsz | (refine goes_enter ?_; first | fail))) | (apply ObsK.b (by rfl); (intro wo hT; (repeat (first | (intro v hv; (fail)) | (intro _ _ k; try have hcv := cv k))); (have sc := (S1.below hT).cell; have hc := (H1.below hT).cell; have hsz : w1.heap.size ≤ wo.heap.size := hT.size); refine Goes.mk ?_; go_simp; first | exact goes_v | exact goes_b (by assumption) | exact goes_arr hsz | (refine goes_enter ?_; first | fail))) | (apply ObsK.p (q := isArr w1.heap.size 2 (u16s [s.src, s.dst]) 22) (by rfl) st_isArr; (intro wo hT; (repeat (first | (intro v hv; (fail)) | (intro _ _ k; try have hcv := cv k))); (have sc := (S1.below hT).cell; have hc := (H1.below hT).cell; have hsz : w1.heap.size ≤ wo.heap.size := hT.size); refine Goes.mk ?_; go_simp; first | exact goes_v | exact goes_b (by assumption) | exact goes_arr hsz | (refine goes_enter ?_; first | fail))))); refine ObsK.nil ?_; intro wz hBz; simp only [finOn, List.drop_succ_cons, List.drop_zero, List.drop_nil]
  rintro v2 ⟨g2, rfl, hg2, G2⟩
  go_simp
  have H1z := H1.below hBz
  have P1z := P1.below hBz
  have S1z := S1.below hBz
  have Z1z := Z1.below hBz
  have zs1 := hBz.size
  have rs1 := R1.size
  have h2 := htwo_any w.heap.size w.heap.size (k + 1 + 1 + 1) _ 77 none 0 0 [] g2 2 2 [s.src, s.dst] rfl (by omega) wz H1z rfl (own_nil _ _ _) (by omega) G2 (by intro x hx; simp at hx; omega) hTs (by omega) (by omega) (Nat.le_refl _) (by omega) (by omega)
  go_wp2_with (go_at_call 45; ((with_reducible refine (h2).mono ?_); rintro e w2 hpost); (obtain ⟨rfl, A2, n2, c2, H2, O2, B2, K2⟩ := hpost.out); simp only [List.setIfInBounds_toArray, List.set_cons_zero] at H2)
  have u2 : n2 = 4 := by rw [← O2.len]; simp [twos, fours, two, four]
  subst u2
  have R2 := (R1.trans (hBz.mono (by omega))).trans B2
  have P2 := K2 k _ _ h77 (by omega) P1z
  have S2 := K2 (k + 1) _ _ h78 (by omega) S1z
  have Z2 := K2 (k + 1 + 1) _ _ h77 (by omega) Z1z
  clear P1z S1z Z1z H1z hpost h2 G2 hg2 zs1 rs1 sc1 hc1 hl1 sl1 B2 K2 hBz
  have sc2 := S2.cell
  have hc2 := H2.cell
  have hl2 := H2.lt
  have sl2 := S2.lt
  refine region_txt 8 (by kernel_rfl) (by kernel_rfl) ?_; (iterate 8 (first | (apply ObsK.skip (by rfl)) | (apply ObsK.v (by rfl); (intro wo hT; (repeat (first | (intro v hv; (fail)) | (intro _ _ k; try have hcv := cv k))); (have sc := (S2.below hT).cell; have hc := (H2.below hT).cell; have hsz : w2.heap.size ≤ wo.heap.size := hT.size); refine Goes.mk ?_; go_simp; first | exact goes_v | exact goes_b (by assumption) | exact goes_arr hsz | (refine goes_enter ?_; first | fail))) | (apply ObsK.b (by rfl); (intro wo hT; (repeat (first | (intro v hv; (fail)) | (intro _ _ k; try have hcv := cv k))); (have sc := (S2.below hT).cell; have hc := (H2.below hT).cell; have hsz : w2.heap.size ≤ wo.heap.size := hT.size); refine Goes.mk ?_; go_simp; first | exact goes_v | exact goes_b (by assumption) | exact goes_arr hsz | (refine goes_enter ?_; first | fail))) | (apply ObsK.p (q := isArr w2.heap.size 2 (u32s [s.seq, s.ack]) 23) (by rfl) st_isArr; (intro wo hT; (repeat (first | (intro v hv; (fail)) | (intro _ _ k; try have hcv := cv k))); (have sc := (S2.below hT).cell; have hc := (H2.below hT).cell; have hsz : w2.heap.size ≤ wo.heap.size := hT.size); refine Goes.mk ?_; go_simp; first | exact goes_v | exact goes_b (by assumption) | exact goes_arr hsz | (refine goes_enter ?_; first | fail))))); refine ObsK.nil ?_; intro wz hBz; simp only [finOn, List.drop_succ_cons, List.drop_zero, List.drop_nil]
  rintro v3 ⟨g3, rfl, hg3, G3⟩
  go_simp
  have H2z := H2.below hBz
  have P2z := P2.below hBz
  have S2z := S2.below hBz
  have Z2z := Z2.below hBz
  have zs2 := hBz.size
  have rs2 := R2.size
  have h3 := hfour_any w.heap.size w.heap.size (k + 1 + 1 + 1) _ 77 A2 4 c2 _ g3 2 2 [s.seq, s.ack] rfl (by omega) wz H2z rfl (O2.below hBz) (by omega) G3 (by intro x hx; simp at hx; omega) hTs (by omega) (by omega) (Nat.le_refl _) (by omega) (by omega)
  go_wp2_with (go_at_call 46; ((with_reducible refine (h3).mono ?_); rintro e w3 hpost); (obtain ⟨rfl, A3, n3, c3, H3, O3, B3, K3⟩ := hpost.out); simp only [List.setIfInBounds_toArray, List.set_cons_zero] at H3)
  have u3 : n3 = 12 := by rw [← O3.len]; simp [twos, fours, two, four]
  subst u3
  have R3 := (R2.trans (hBz.mono (by omega))).trans B3
  have P3 := K3 k _ _ h77 (by omega) P2z
  have S3 := K3 (k + 1) _ _ h78 (by omega) S2z
  have Z3 := K3 (k + 1 + 1) _ _ h77 (by omega) Z2z
  clear P2z S2z Z2z H2z hpost h3 G3 hg3 zs2 rs2 sc2 hc2 hl2 sl2 B3 K3 hBz
  have sc3 := S3.cell
  have hc3 := H3.cell
  have hl3 := H3.lt
  have sl3 := S3.lt
  refine region_txt 11 (by kernel_rfl) (by kernel_rfl) ?_; (iterate 11 (first | (apply ObsK.skip (by rfl)) | (apply ObsK.v (by rfl); (intro wo hT; (repeat (first | (intro v hv; (fail)) | (intro _ _ k; try have hcv := cv k))); (have sc := (S3.below hT).cell; have hc := (H3.below hT).cell; have hsz : w3.heap.size ≤ wo.heap.size := hT.size); refine Goes.mk ?_; go_simp; first | exact goes_v | exact goes_b (by assumption) | exact goes_arr hsz | (refine goes_enter ?_; first | fail))) | (apply ObsK.b (by rfl); (intro wo hT; (repeat (first | (intro v hv; (fail)) | (intro _ _ k; try have hcv := cv k))); (have sc := (S3.below hT).cell; have hc := (H3.below hT).cell; have hsz : w3.heap.size ≤ wo.heap.size := hT.size); refine Goes.mk ?_; go_simp; first | exact goes_v | exact goes_b (by assumption) | exact goes_arr hsz | (refine goes_enter ?_; first | fail))) | (apply ObsK.p (q := isArr w3.heap.size 4 (u16s [s.flags, s.win, 0, s.urg]) 22) (by rfl) st_isArr; (intro wo hT; (repeat (first | (intro v hv; (fail)) | (intro _ _ k; try have hcv := cv k))); (have sc := (S3.below hT).cell; have hc := (H3.below hT).cell; have hsz : w3.heap.size ≤ wo.heap.size := hT.size); refine Goes.mk ?_; go_simp; first | exact goes_v | exact goes_b (by assumption) | exact goes_arr hsz | (refine goes_enter ?_; first | fail))))); refine ObsK.nil ?_; intro wz hBz; simp only [finOn, List.drop_succ_cons, List.drop_zero, List.drop_nil]
  rintro v4 ⟨g4, rfl, hg4, G4⟩
  go_simp
  have H3z := H3.below hBz
  have P3z := P3.below hBz
  have S3z := S3.below hBz
  have Z3z := Z3.below hBz
  have zs3 := hBz.size
  have rs3 := R3.size
  have h4 := htwo_any w.heap.size w.heap.size (k + 1 + 1 + 1) _ 77 A3 12 c3 _ g4 4 4 [s.flags, s.win, 0, s.urg] rfl (by omega) wz H3z rfl (O3.below hBz) (by omega) G4 (by intro x hx; simp at hx; omega) hTs (by omega) (by omega) (Nat.le_refl _) (by omega) (by omega)
  rcases Bool.eq_false_or_eq_true (okOs s.opts) with hok | hok
  · go_wp2_with (first
      | (go_at_call 45; ((with_reducible refine (h4).mono ?_); rintro e w4 hpost); (obtain ⟨rfl, A4, n4, c4, H4, O4, B4, K4⟩ := hpost.out); simp only [List.setIfInBounds_toArray, List.set_cons_zero] at H4; have u4 : 20 = n4 := (by rw [← O4.len]; simp [twos, fours, two, four]); subst u4; have R4 := (R3.trans (hBz.mono (by omega))).trans B4; have P4 := K4 k _ _ h77 (by omega) P3z; have S4 := K4 (k + 1) _ _ h78 (by omega) S3z; have Z4 := K4 (k + 1 + 1) _ _ h77 (by omega) Z3z; have O4' : Own w4 w.heap.size 5 A4 20 c4 (hdSg s) := O4; have s4 := S4.cell; have hl4 := H4.lt; have rs4 := R4.size; have ho := hopts_any w.heap.size w.heap.size (k + 1 + 1 + 1) 77 A4 c4 (hdSg s) w w4 OA on oc s.opts K R4 (Nat.le_refl _) H4 O4' hTs (by omega) (Nat.le_refl _) rs4 rs4)
      | (go_at_call 47; ((with_reducible refine (ho).mono ?_); rintro e w5 hpost5); (obtain ⟨rfl, A5, n5, c5, H5, O5, B5, K5⟩ := hpost5.out); have P5 := K5 k _ _ h77 (by omega) P4; have S5 := K5 (k + 1) _ _ h78 (by omega) S4; have Z5 := K5 (k + 1 + 1) _ _ h77 (by omega) Z4; have R5 := R4.trans B5; rw [hok] at H5; have hc5 := H5.cell; have zc5 := Z5.cell))
    replace O5 := O5 hok
    have hl5 := O5.len
    rw [List.length_append, hdSg_len] at hl5
    have hl6 := okOs_len hok
    have hl7 := (optL_len s.opts).2
    obtain ⟨g5, rfl, gb5, gl5⟩ := O5.ptr (by omega)
    have hx := sL_of s (((20 + (optL s.opts).length : Nat) : Int) / 4 * 16) rfl
    obtain ⟨x, hxe⟩ : ∃ x, ((20 + (optL s.opts).length : Nat) : Int) / 4 * 16 = x := ⟨_, rfl⟩
    rw [hxe] at hx
    have HX := Lib.hid hx
    clear hx
    have x0 : 0 ≤ x := by omega
    have x1 : x ≤ 255 := by omega
    have n60 : n5 ≤ 60 := by omega
    have n20 : 20 ≤ n5 := by omega
    have hx5 : (n5 : Int) / 4 * 16 = x := by omega
    clear hxe hl5 hl6 hl7
    obtain ⟨cc5, cf5⟩ := O5.at_ (i := 12) (by omega)
    have h5l := H5.lt
    refine region_txt 14 (by kernel_rfl) (by kernel_rfl) ?_; (iterate 14 (first | (apply ObsK.skip (by rfl)) | (apply ObsK.v (by rfl); (intro wo hT; (repeat (first | (intro _ _ k; try have hcv := cv k))); (have hc := (H5.below hT).cell; have oc5 := (O5.below hT).at_ (i := 12) (by omega)); refine Goes.mk ?_; go_simp; first | exact goes_v | exact goes_b (by assumption) | (refine goes_enter ?_; first | fail))) | (apply ObsK.b (by rfl); (intro wo hT; (repeat (first | (intro _ _ k; try have hcv := cv k))); (have hc := (H5.below hT).cell; have oc5 := (O5.below hT).at_ (i := 12) (by omega)); refine Goes.mk ?_; go_simp; first | exact goes_v | exact goes_b (by assumption) | (refine goes_enter ?_; first | fail))))); refine ObsK.nil ?_; intro wz hBz; simp only [finOn, List.drop_succ_cons, List.drop_zero, List.drop_nil]
    go_simp
    have hq1 : IntKind.i64.wrap ((n5 : Int) / 4) = (n5 : Int) / 4 := by rw [IntKind.wrap_i64]; omega
    have hq2 : IntKind.i64.wrap ((n5 : Int) / 4 * 16) = x := by rw [IntKind.wrap_i64]; omega
    have hq3 : IntKind.u8.wrap x = x := by rw [IntKind.wrap_u8]; omega
    have oc6 := (O5.below hBz).at_ (i := 12) (by omega)
    have n12 : (12 : Int) < n5 := by omega
    go_wp2_with fail
    obtain ⟨E, hE⟩ : ∃ E, wiE p (sN s) = E := ⟨_, rfl⟩
    obtain ⟨P, hP⟩ : ∃ P, P = withP p 6 (sL s) := ⟨_, rfl⟩
    have hw2 := fun W A n c k1 k3 hb => swith_all p X1 m1 j1 X2 m2 j2 6 (sL s) P E (by rw [sL_len]; exact hE) hP w.heap.size A n c W k1 k3 hb
    have HE := Lib.hid hE
    have HP := Lib.hid hP
    clear hE hP
    obtain ⟨w6, hw6⟩ : ∃ w6, wz.setCell ⟨g5, 12, none⟩ (.int .u8 x) = w6 := ⟨_, rfl⟩
    have gne := O5.ne_blk H5 hTs g5 rfl
    have H6 := (H5.below hBz).far ⟨g5, 12, none⟩ gne (.int .u8 x)
    have P6 := (P5.below hBz).far ⟨g5, 12, none⟩ (O5.ne_blk P5 h77 g5 rfl) (.int .u8 x)
    have S6 := (S5.below hBz).far ⟨g5, 12, none⟩ (O5.ne_blk S5 h78 g5 rfl) (.int .u8 x)
    have Z6 := (Z5.below hBz).far ⟨g5, 12, none⟩ (O5.ne_blk Z5 h77 g5 rfl) (.int .u8 x)
    have O6 := (O5.below hBz).set_ (i := 12) (by omega) x (y := x) (by omega)
    have R6 := (R5.trans (hBz.mono R5.size)).setCell (p := ⟨g5, 12, none⟩) gb5 (.int .u8 x)
    rw [hw6] at H6 P6 S6 Z6 O6 R6 ⊢
    have x6 := k1.below R6
    have y6 := kd.below R6
    have r6 := R6.size
    clear hw6 oc6 hq1 hq2 hq3 hx5 cc5 cf5 n12 hc5 zc5
    refine region_z 15 13 (by kernel_rfl) (by kernel_rfl) (fun _ _ _ _ _ h => h) ?_; (iterate 15 (first | (apply ObsK.skip (by rfl)) | (apply ObsK.v (by rfl); (intro wo hT; (repeat (first | (intro v hv; ((first | (have hcat := hv.out) | (obtain ⟨A7, n7, c7, rfl, o7⟩ := hv) | (obtain ⟨D1, g1, h1', D2, g2, h2', rfl, o13, o14⟩ := hv)))) | (intro _ _ k; try have hcv := cv k))); (have pc := (P6.below hT).cell; have sc := (S6.below hT).cell; have hc := (H6.below hT).cell; have xo := x6.below hT; have oo := (O6.below hT).bs; have yo := y6.below hT; have hsz : w6.heap.size ≤ wo.heap.size := hT.size); refine Goes.mk ?_; go_simp; first | exact goes_v | exact goes_b (by assumption) | (first | exact goes_cat2 (by assumption) (by assumption) (by omega) | exact goes_tup (by assumption) (by assumption) | exact goes_pk (by assumption) (by assumption) | exact goes_new hsz) | (refine goes_enter ?_; first | (go_at_call 49; ((with_reducible refine (hcat wo (Below.refl _ _)).mono ?_); rintro e w9 ⟨A9, n9, c9, rfl, ho9, hB9⟩); rw [HX.out] at ho9; exact ret_p (own_isW ho9 (by omega)) hB9) | (go_at_call 48; ((with_reducible refine (hw2 wo A7 n7 c7 xo o7 (by omega)).mono ?_); rintro e w9 ⟨D1, g1, h1', D2, g2, h2', rfl, o13, o14, hB9⟩); exact ret_tup (P := P) o13 o14 hB9)))) | (apply ObsK.b (by rfl); (intro wo hT; (repeat (first | (intro v hv; ((first | (have hcat := hv.out) | (obtain ⟨A7, n7, c7, rfl, o7⟩ := hv) | (obtain ⟨D1, g1, h1', D2, g2, h2', rfl, o13, o14⟩ := hv)))) | (intro _ _ k; try have hcv := cv k))); (have pc := (P6.below hT).cell; have sc := (S6.below hT).cell; have hc := (H6.below hT).cell; have xo := x6.below hT; have oo := (O6.below hT).bs; have yo := y6.below hT; have hsz : w6.heap.size ≤ wo.heap.size := hT.size); refine Goes.mk ?_; go_simp; first | exact goes_v | exact goes_b (by assumption) | (first | exact goes_cat2 (by assumption) (by assumption) (by omega) | exact goes_tup (by assumption) (by assumption) | exact goes_pk (by assumption) (by assumption) | exact goes_new hsz) | (refine goes_enter ?_; first | (go_at_call 49; ((with_reducible refine (hcat wo (Below.refl _ _)).mono ?_); rintro e w9 ⟨A9, n9, c9, rfl, ho9, hB9⟩); rw [HX.out] at ho9; exact ret_p (own_isW ho9 (by omega)) hB9) | (go_at_call 48; ((with_reducible refine (hw2 wo A7 n7 c7 xo o7 (by omega)).mono ?_); rintro e w9 ⟨D1, g1, h1', D2, g2, h2', rfl, o13, o14, hB9⟩); exact ret_tup (P := P) o13 o14 hB9)))) | (apply ObsK.p (q := isC ((hdSg s ++ optL s.opts).set 12 (ub x) ++ s.dat)) (by rfl) st_isC; (intro wo hT; (repeat (first | (intro v hv; ((first | (have hcat := hv.out) | (obtain ⟨A7, n7, c7, rfl, o7⟩ := hv) | (obtain ⟨D1, g1, h1', D2, g2, h2', rfl, o13, o14⟩ := hv)))) | (intro _ _ k; try have hcv := cv k))); (have pc := (P6.below hT).cell; have sc := (S6.below hT).cell; have hc := (H6.below hT).cell; have xo := x6.below hT; have oo := (O6.below hT).bs; have yo := y6.below hT; have hsz : w6.heap.size ≤ wo.heap.size := hT.size); refine Goes.mk ?_; go_simp; first | exact goes_v | exact goes_b (by assumption) | (first | exact goes_cat2 (by assumption) (by assumption) (by omega) | exact goes_tup (by assumption) (by assumption) | exact goes_pk (by assumption) (by assumption) | exact goes_new hsz) | (refine goes_enter ?_; first | (go_at_call 49; ((with_reducible refine (hcat wo (Below.refl _ _)).mono ?_); rintro e w9 ⟨A9, n9, c9, rfl, ho9, hB9⟩); rw [HX.out] at ho9; exact ret_p (own_isW ho9 (by omega)) hB9) | (go_at_call 48; ((with_reducible refine (hw2 wo A7 n7 c7 xo o7 (by omega)).mono ?_); rintro e w9 ⟨D1, g1, h1', D2, g2, h2', rfl, o13, o14, hB9⟩); exact ret_tup (P := P) o13 o14 hB9)))) | (apply ObsK.p (q := isW w.heap.size (sL s)) (by rfl) st_isW; (intro wo hT; (repeat (first | (intro v hv; ((first | (have hcat := hv.out) | (obtain ⟨A7, n7, c7, rfl, o7⟩ := hv) | (obtain ⟨D1, g1, h1', D2, g2, h2', rfl, o13, o14⟩ := hv)))) | (intro _ _ k; try have hcv := cv k))); (have pc := (P6.below hT).cell; have sc := (S6.below hT).cell; have hc := (H6.below hT).cell; have xo := x6.below hT; have oo := (O6.below hT).bs; have yo := y6.below hT; have hsz : w6.heap.size ≤ wo.heap.size := hT.size); refine Goes.mk ?_; go_simp; first | exact goes_v | exact goes_b (by assumption) | (first | exact goes_cat2 (by assumption) (by assumption) (by omega) | exact goes_tup (by assumption) (by assumption) | exact goes_pk (by assumption) (by assumption) | exact goes_new hsz) | (refine goes_enter ?_; first | (go_at_call 49; ((with_reducible refine (hcat wo (Below.refl _ _)).mono ?_); rintro e w9 ⟨A9, n9, c9, rfl, ho9, hB9⟩); rw [HX.out] at ho9; exact ret_p (own_isW ho9 (by omega)) hB9) | (go_at_call 48; ((with_reducible refine (hw2 wo A7 n7 c7 xo o7 (by omega)).mono ?_); rintro e w9 ⟨D1, g1, h1', D2, g2, h2', rfl, o13, o14, hB9⟩); exact ret_tup (P := P) o13 o14 hB9)))) | (apply ObsK.p (q := isTup w.heap.size P E) (by rfl) st_isTup; (intro wo hT; (repeat (first | (intro v hv; ((first | (have hcat := hv.out) | (obtain ⟨A7, n7, c7, rfl, o7⟩ := hv) | (obtain ⟨D1, g1, h1', D2, g2, h2', rfl, o13, o14⟩ := hv)))) | (intro _ _ k; try have hcv := cv k))); (have pc := (P6.below hT).cell; have sc := (S6.below hT).cell; have hc := (H6.below hT).cell; have xo := x6.below hT; have oo := (O6.below hT).bs; have yo := y6.below hT; have hsz : w6.heap.size ≤ wo.heap.size := hT.size); refine Goes.mk ?_; go_simp; first | exact goes_v | exact goes_b (by assumption) | (first | exact goes_cat2 (by assumption) (by assumption) (by omega) | exact goes_tup (by assumption) (by assumption) | exact goes_pk (by assumption) (by assumption) | exact goes_new hsz) | (refine goes_enter ?_; first | (go_at_call 49; ((with_reducible refine (hcat wo (Below.refl _ _)).mono ?_); rintro e w9 ⟨A9, n9, c9, rfl, ho9, hB9⟩); rw [HX.out] at ho9; exact ret_p (own_isW ho9 (by omega)) hB9) | (go_at_call 48; ((with_reducible refine (hw2 wo A7 n7 c7 xo o7 (by omega)).mono ?_); rintro e w9 ⟨D1, g1, h1', D2, g2, h2', rfl, o13, o14, hB9⟩); exact ret_tup (P := P) o13 o14 hB9)))) | (apply ObsK.p (q := isPk w.heap.size P) (by rfl) st_isPk; (intro wo hT; (repeat (first | (intro v hv; ((first | (have hcat := hv.out) | (obtain ⟨A7, n7, c7, rfl, o7⟩ := hv) | (obtain ⟨D1, g1, h1', D2, g2, h2', rfl, o13, o14⟩ := hv)))) | (intro _ _ k; try have hcv := cv k))); (have pc := (P6.below hT).cell; have sc := (S6.below hT).cell; have hc := (H6.below hT).cell; have xo := x6.below hT; have oo := (O6.below hT).bs; have yo := y6.below hT; have hsz : w6.heap.size ≤ wo.heap.size := hT.size); refine Goes.mk ?_; go_simp; first | exact goes_v | exact goes_b (by assumption) | (first | exact goes_cat2 (by assumption) (by assumption) (by omega) | exact goes_tup (by assumption) (by assumption) | exact goes_pk (by assumption) (by assumption) | exact goes_new hsz) | (refine goes_enter ?_; first | (go_at_call 49; ((with_reducible refine (hcat wo (Below.refl _ _)).mono ?_); rintro e w9 ⟨A9, n9, c9, rfl, ho9, hB9⟩); rw [HX.out] at ho9; exact ret_p (own_isW ho9 (by omega)) hB9) | (go_at_call 48; ((with_reducible refine (hw2 wo A7 n7 c7 xo o7 (by omega)).mono ?_); rintro e w9 ⟨D1, g1, h1', D2, g2, h2', rfl, o13, o14, hB9⟩); exact ret_tup (P := P) o13 o14 hB9)))) | (apply ObsK.p (q := isNew w6.heap.size #[.int .u8 0, .int .u16 0, .bool false, .int .u8 0, .int .u8 0, .int .u32 0, .int .u32 0, .slice none 0 0, .slice none 0 0] 26) (by rfl) st_isNew; (intro wo hT; (repeat (first | (intro v hv; ((first | (have hcat := hv.out) | (obtain ⟨A7, n7, c7, rfl, o7⟩ := hv) | (obtain ⟨D1, g1, h1', D2, g2, h2', rfl, o13, o14⟩ := hv)))) | (intro _ _ k; try have hcv := cv k))); (have pc := (P6.below hT).cell; have sc := (S6.below hT).cell; have hc := (H6.below hT).cell; have xo := x6.below hT; have oo := (O6.below hT).bs; have yo := y6.below hT; have hsz : w6.heap.size ≤ wo.heap.size := hT.size); refine Goes.mk ?_; go_simp; first | exact goes_v | exact goes_b (by assumption) | (first | exact goes_cat2 (by assumption) (by assumption) (by omega) | exact goes_tup (by assumption) (by assumption) | exact goes_pk (by assumption) (by assumption) | exact goes_new hsz) | (refine goes_enter ?_; first | (go_at_call 49; ((with_reducible refine (hcat wo (Below.refl _ _)).mono ?_); rintro e w9 ⟨A9, n9, c9, rfl, ho9, hB9⟩); rw [HX.out] at ho9; exact ret_p (own_isW ho9 (by omega)) hB9) | (go_at_call 48; ((with_reducible refine (hw2 wo A7 n7 c7 xo o7 (by omega)).mono ?_); rintro e w9 ⟨D1, g1, h1', D2, g2, h2', rfl, o13, o14, hB9⟩); exact ret_tup (P := P) o13 o14 hB9)))))); refine ObsK.nil ?_; intro wz hBz; simp only [finOn, List.drop_succ_cons, List.drop_zero, List.drop_nil]
    rintro v14 ⟨gq, rfl, hgq, Q⟩ v12 ⟨D1, g1, h1', D2, g2, h2', rfl, O13, O14⟩ v11 hv11 v10 hv10 v9 hv9 v8 hv8
    go_simp
    clear hv11 hv10 hv9 hv8
    have Q7 := Q.cell
    have Z7 := Z6.below hBz
    have R7 := R6.trans (hBz.mono r6)
    have qne : k + 1 + 1 ≠ gq := by have := Z6.lt; omega
    by_cases hE0 : E = 0
    · subst hE0
      have hp : P = { p with proto := 6, dat := sL s } := by rw [HP.out]; unfold withP; rw [sL_len, HE.out, if_pos rfl]
      clear HP hw2
      subst hp
      obtain ⟨wf, hwf, Sf⟩ := store9 Q (.int .u8 p.tos) (.int .u16 p.id) (.bool p.keep) (.int .u8 p.ttl) (.int .u8 6) (.int .u32 p.src) (.int .u32 p.dst) (.slice D1 g1 h1') (.slice D2 g2 h2')
      go_wp2_with fail
      have hE : sbE p s = 0 := by unfold sbE; rw [hok, if_pos rfl]; exact HE.out
      have hP : sbP p s = { p with proto := 6, dat := sS p s } := by unfold sbP; rw [if_pos hE]
      have HE1 := Lib.hid hE
      have HP1 := Lib.hid hP
      clear hE hP
      have HS : Hid (put16 (sL s) 16 (psum p 6 (sL s)) = sS p s) := rfl
      have hp' : ({ p with proto := 6, dat := sL s } : Pkt).Ok := by
        obtain ⟨e1, e2, e3, e4, e5, e6⟩ := hp
        exact ⟨e1, e2, e3, ⟨by show (0 : Int) ≤ 6; omega, by show (6 : Int) ≤ 255; omega⟩, e5, e6⟩
      have Qf := Sf.blk
      have O13f := Sf.own O13 (fun a e => O13.ne_blk Q h77 a.block (by rw [e]; rfl))
      have O14f := Sf.own O14 (fun a e => O14.ne_blk Q h77 a.block (by rw [e]; rfl))
      have Zf := Sf.other qne Z7
      have Rf := Sf.bel R7 (by omega)
      have rf := Rf.size
      have g1b : g2 ≤ 140737488400000 := by
        have h1 := O14.len
        rw [sL_len] at h1
        have h2 := okOs_len hok
        unfold sN at h1
        have h3 := kd.len
        omega
      obtain ⟨z, hz⟩ : ∃ z, psum p 6 (sL s) = z := ⟨_, rfl⟩
      have z0 : 0 ≤ z := by rw [← hz]; exact csum_lo _
      have z1 : z ≤ 65535 := by rw [← hz]; exact csum_hi _
      rw [hz] at HS
      have hsum : ∀ W, Bs W D2 g2 h2' (sL s) → Calls Try.prog 51 #[(.agg #[.int .u8 ({ p with proto := 6, dat := sL s }).tos, .int .u16 ({ p with proto := 6, dat := sL s }).id, .bool ({ p with proto := 6, dat := sL s }).keep, .int .u8 ({ p with proto := 6, dat := sL s }).ttl, .int .u8 ({ p with proto := 6, dat := sL s }).proto, .int .u32 ({ p with proto := 6, dat := sL s }).src, .int .u32 ({ p with proto := 6, dat := sL s }).dst, .slice D1 g1 h1', .slice D2 g2 h2']), .int .u8 6, .slice D2 g2 h2'] W fun e w' => e = .returned (.int .u16 z) ∧ Below W.heap.size W w' := fun W bo => by
        have := ssum_any { p with proto := 6, dat := sL s } hp' D1 g1 h1' D2 g2 h2' 6 (by omega) (by omega) D2 g2 h2' (sL s) W bo g1b
        rw [← hz]
        exact this
      clear hwf Sf O13 O14 Q7 hz hp' Q
      refine region_txt 7 (by kernel_rfl) (by kernel_rfl) ?_; (iterate 7 (first | (apply ObsK.skip (by rfl)) | (apply ObsK.v (by rfl); (intro wo hT; (repeat (first | (intro v hv; (skip)) | (intro _ _ k; try have hcv := cv k))); (have qc := (Qf.below hT).cell; have bo := (O14f.below hT).bs; have hsz := hT.size); refine Goes.mk ?_; go_simp; first | exact goes_v | exact goes_b (by assumption) | (refine goes_enter ?_; first | (go_at_call 51; ((with_reducible refine (hsum wo bo).mono ?_); rintro e w9 ⟨rfl, hB9⟩); exact ret_v hB9) | (go_at_call 50; ((with_reducible refine (put16_any D2 g2 h2' (sL s) 16 z z0 z1 wo bo).mono ?_); rintro e w9 ⟨A9, c9, rfl, ho9, hB9⟩); exact ret_p (own_isW (HS.out ▸ ho9) (by omega)) hB9)))) | (apply ObsK.b (by rfl); (intro wo hT; (repeat (first | (intro v hv; (skip)) | (intro _ _ k; try have hcv := cv k))); (have qc := (Qf.below hT).cell; have bo := (O14f.below hT).bs; have hsz := hT.size); refine Goes.mk ?_; go_simp; first | exact goes_v | exact goes_b (by assumption) | (refine goes_enter ?_; first | (go_at_call 51; ((with_reducible refine (hsum wo bo).mono ?_); rintro e w9 ⟨rfl, hB9⟩); exact ret_v hB9) | (go_at_call 50; ((with_reducible refine (put16_any D2 g2 h2' (sL s) 16 z z0 z1 wo bo).mono ?_); rintro e w9 ⟨A9, c9, rfl, ho9, hB9⟩); exact ret_p (own_isW (HS.out ▸ ho9) (by omega)) hB9)))) | (apply ObsK.p (q := isW w.heap.size (sS p s)) (by rfl) st_isW; (intro wo hT; (repeat (first | (intro v hv; (skip)) | (intro _ _ k; try have hcv := cv k))); (have qc := (Qf.below hT).cell; have bo := (O14f.below hT).bs; have hsz := hT.size); refine Goes.mk ?_; go_simp; first | exact goes_v | exact goes_b (by assumption) | (refine goes_enter ?_; first | (go_at_call 51; ((with_reducible refine (hsum wo bo).mono ?_); rintro e w9 ⟨rfl, hB9⟩); exact ret_v hB9) | (go_at_call 50; ((with_reducible refine (put16_any D2 g2 h2' (sL s) 16 z z0 z1 wo bo).mono ?_); rintro e w9 ⟨A9, c9, rfl, ho9, hB9⟩); exact ret_p (own_isW (HS.out ▸ ho9) (by omega)) hB9)))))); refine ObsK.nil ?_; intro wz hBz; simp only [finOn, List.drop_succ_cons, List.drop_zero, List.drop_nil]
      rintro v6 ⟨A9, n9, c9, rfl, O9⟩
      go_simp
      have Q8 := Qf.below hBz
      have Z8 := Zf.below hBz
      have R8 := Rf.trans (hBz.mono rf)
      have O8 := O13f.below hBz
      obtain ⟨wg, hwg, Sg⟩ := store1 Q8 8 (.slice A9 n9 c9)
      simp only [List.setIfInBounds_toArray, List.set_cons_zero, List.set_cons_succ] at Sg
      have qg := Sg.blk.cell
      have Zg := Sg.other qne Z8
      have zg := Zg.cell
      have Og := Sg.own O8 (fun a e => O8.ne_blk Q8 h77 a.block (by rw [e]; rfl))
      have Dg := Sg.own O9 (fun a e => O9.ne_blk Q8 h77 a.block (by rw [e]; rfl))
      have Rg := Sg.bel R8 (by omega)
      have q8 := Q8.cell
      go_wp2_with fail
      obtain ⟨wh, hwh, Sh⟩ := store9 Zg (.int .u8 p.tos) (.int .u16 p.id) (.bool p.keep) (.int .u8 p.ttl) (.int .u8 6) (.int .u32 p.src) (.int .u32 p.dst) (.slice D1 g1 h1') (.slice A9 n9 c9)
      rw [hwh]
      have ph := Sh.blk.cell
      have Oh := Sh.own Og (fun a e => Og.ne_blk Zg h77 a.block (by rw [e]; rfl))
      have Dh := Sh.own Dg (fun a e => Dg.ne_blk Zg h77 a.block (by rw [e]; rfl))
      exact bodyPost_ret (v := .tuple #[.agg #[.int .u8 p.tos, .int .u16 p.id, .bool p.keep, .int .u8 p.ttl, .int .u8 6, .int .u32 p.src, .int .u32 p.dst, .slice D1 g1 h1', .slice A9 n9 c9], .int .i64 0]) (by simp [results, Try.results18, go_sem, ph]) rfl (by rw [HE1.out, HP1.out]; exact ⟨⟨D1, g1, h1', A9, n9, c9, rfl, Oh, Dh, Sh.bel Rg (by omega)⟩⟩)
    · have hE : sbE p s = E := by unfold sbE; rw [hok, if_pos rfl]; exact HE.out
      have hP : sbP p s = zP := by unfold sbP; rw [hE, if_neg hE0]
      have HE1 := Lib.hid hE
      have HP1 := Lib.hid hP
      have e0 : (E == 0) = false := by simpa using hE0
      clear hE hP hE0 hw2 HP HE
      obtain ⟨wf, hwf, Sf⟩ := store9 Q (.int .u8 P.tos) (.int .u16 P.id) (.bool P.keep) (.int .u8 P.ttl) (.int .u8 P.proto) (.int .u32 P.src) (.int .u32 P.dst) (.slice D1 g1 h1') (.slice D2 g2 h2')
      have Zf := Sf.other qne Z7
      have zf := Zf.cell
      have Rf := Sf.bel R7 (by omega)
      go_wp2_with fail
      obtain ⟨wh, hwh, Sh⟩ := store9 Zf (.int .u8 0) (.int .u16 0) (.bool false) (.int .u8 0) (.int .u8 0) (.int .u32 0) (.int .u32 0) (.slice none 0 0) (.slice none 0 0)
      rw [hwh]
      have ph := Sh.blk.cell
      exact bodyPost_ret (v := .tuple #[.agg #[.int .u8 0, .int .u16 0, .bool false, .int .u8 0, .int .u8 0, .int .u32 0, .int .u32 0, .slice none 0 0, .slice none 0 0], .int .i64 E]) (by simp [results, Try.results18, go_sem, ph]) rfl (by rw [HE1.out, HP1.out]; exact wiPost_no (Sh.bel Rf (by omega)))
  · go_wp2_with (first
      | (go_at_call 45; ((with_reducible refine (h4).mono ?_); rintro e w4 hpost); (obtain ⟨rfl, A4, n4, c4, H4, O4, B4, K4⟩ := hpost.out); simp only [List.setIfInBounds_toArray, List.set_cons_zero] at H4; have u4 : 20 = n4 := (by rw [← O4.len]; simp [twos, fours, two, four]); subst u4; have R4 := (R3.trans (hBz.mono (by omega))).trans B4; have P4 := K4 k _ _ h77 (by omega) P3z; have S4 := K4 (k + 1) _ _ h78 (by omega) S3z; have Z4 := K4 (k + 1 + 1) _ _ h77 (by omega) Z3z; have O4' : Own w4 w.heap.size 5 A4 20 c4 (hdSg s) := O4; have s4 := S4.cell; have hl4 := H4.lt; have rs4 := R4.size; have ho := hopts_any w.heap.size w.heap.size (k + 1 + 1 + 1) 77 A4 c4 (hdSg s) w w4 OA on oc s.opts K R4 (Nat.le_refl _) H4 O4' hTs (by omega) (Nat.le_refl _) rs4 rs4)
      | (go_at_call 47; ((with_reducible refine (ho).mono ?_); rintro e w5 hpost5); (obtain ⟨rfl, A5, n5, c5, H5, O5, B5, K5⟩ := hpost5.out); have P5 := K5 k _ _ h77 (by omega) P4; have S5 := K5 (k + 1) _ _ h78 (by omega) S4; have Z5 := K5 (k + 1 + 1) _ _ h77 (by omega) Z4; have R5 := R4.trans B5; rw [hok] at H5; have hc5 := H5.cell; have zc5 := Z5.cell))
    obtain ⟨wf, hwf, Sf⟩ := store9 Z5 (.int .u8 0) (.int .u16 0) (.bool false) (.int .u8 0) (.int .u8 0) (.int .u32 0) (.int .u32 0) (.slice none 0 0) (.slice none 0 0)
    rw [hwf]
    have pf := Sf.blk.cell
    have hE : sbE p s = 4 := by unfold sbE; rw [hok]; rfl
    have hP : sbP p s = zP := by unfold sbP; rw [hE]; rfl
    have HE1 := Lib.hid hE
    have HP1 := Lib.hid hP
    clear hE hP hwf
    exact bodyPost_ret (v := .tuple #[.agg #[.int .u8 0, .int .u16 0, .bool false, .int .u8 0, .int .u8 0, .int .u32 0, .int .u32 0, .slice none 0 0, .slice none 0 0], .int .i64 4]) (by simp [results, Try.results18, go_sem, pf]) rfl (by rw [HE1.out, HP1.out]; exact wiPost_no (Sf.bel R5 (by omega)))


end Go.Proofs.Ytjjhnjkmoogloaa

import Derived.Test.YtkjhickjgncheaaIpB3
import Derived.Test.YtkjhickjgncheaaRef1
import Derived.Test.YtkjhickjgncheaaTight
namespace Go.Proofs.Ytkjhickjgncheaa
open Go.RowKit
set_option linter.unusedVariables false
set_option linter.unusedSimpArgs false
set_option linter.unusedSimpArgs false
set_option maxHeartbeats 4000000
set_option maxRecDepth 100000

theorem cu2 {x y : Int} (x0 : 0 ≤ x) (x1 : x ≤ 255) (y0 : 0 ≤ y) (y1 : y ≤ 255) : (cu [ub x, ub y]).toArray = #[.int .u8 x, .int .u8 y] := by
  simp [cu, ub_val]; omega
theorem cu4 {x y z u : Int} (x0 : 0 ≤ x) (x1 : x ≤ 255) (y0 : 0 ≤ y) (y1 : y ≤ 255) (z0 : 0 ≤ z) (z1 : z ≤ 255) (u0 : 0 ≤ u) (u1 : u ≤ 255) : (cu [ub x, ub y, ub z, ub u]).toArray = #[.int .u8 x, .int .u8 y, .int .u8 z, .int .u8 u] := by
  simp [cu, ub_val]; omega
theorem lit2 {e : TypeId} {x y : Int} (x0 : 0 ≤ x) (x1 : x ≤ 255) (y0 : 0 ≤ y) (y1 : y ≤ 255) (W : World) : Own (W.alloc (.cells #[.int .u8 x, .int .u8 y] e)) W.heap.size e (some ⟨W.heap.size, 0, none⟩) 2 2 [ub x, ub y] := by
  rw [← cu2 x0 x1 y0 y1]; exact own_lit W _ e _ 2 rfl (by omega) (Nat.le_refl _)
theorem lit4 {e : TypeId} {x y z u : Int} (x0 : 0 ≤ x) (x1 : x ≤ 255) (y0 : 0 ≤ y) (y1 : y ≤ 255) (z0 : 0 ≤ z) (z1 : z ≤ 255) (u0 : 0 ≤ u) (u1 : u ≤ 255) (W : World) : Own (W.alloc (.cells #[.int .u8 x, .int .u8 y, .int .u8 z, .int .u8 u] e)) W.heap.size e (some ⟨W.heap.size, 0, none⟩) 4 4 [ub x, ub y, ub z, ub u] := by
  rw [← cu4 x0 x1 y0 y1 z0 z1 u0 u1]; exact own_lit W _ e _ 4 rfl (by omega) (Nat.le_refl _)
def hdE (p : Pkt) (all : Int) : List UInt8 := [ub (69 + (p.opt.length : Int) / 4), ub p.tos] ++ two all ++ two p.id ++ [ub (if p.keep = true then 64 else 0), ub 0] ++ [ub p.ttl, ub p.proto, ub 0, ub 0] ++ four p.src ++ four p.dst ++ p.opt
theorem header_any (p : Pkt) (hp : p.Ok) (all : Int) (a0 : 0 ≤ all) (a1 : all ≤ 65535) (A1 : Option Addr) (n1 c1 : Nat) (A2 : Option Addr) (n2 c2 : Nat) (w : World) (k1 : Bs w A1 n1 c1 p.opt)
    (h1 : (n1 : Int) ≤ 40) :
    Calls Try.prog 33 #[(.agg #[.int .u8 (p).tos, .int .u16 (p).id, .bool (p).keep, .int .u8 (p).ttl, .int .u8 (p).proto, .int .u32 (p).src, .int .u32 (p).dst, .slice A1 n1 c1, .slice A2 n2 c2]), .int .i64 all] w fun e w' => ∃ A n c, e = .returned (.slice A n c) ∧ Own w' w.heap.size 5 A n c (put16 (hdE p all) 10 (csum (hdE p all))) ∧ Below w.heap.size w w' := by
  have b1 := k1.max
  have hl := k1.len
  obtain ⟨⟨o1, o1'⟩, ⟨o2, o2'⟩, ⟨o3, o3'⟩, ⟨o4, o4'⟩, ⟨o5, o5'⟩, ⟨o6, o6'⟩⟩ := hp
  obtain ⟨kp, hkp⟩ : ∃ kp, p.keep = kp := ⟨_, rfl⟩
  obtain ⟨y, hy⟩ : ∃ y : Int, 69 + (n1 : Int) / 4 = y := ⟨_, rfl⟩
  have HE : Hid (hdE p all = [ub y, ub p.tos] ++ two all ++ two p.id ++ [ub (if kp = true then 64 else 0), ub 0] ++ [ub p.ttl, ub p.proto, ub 0, ub 0] ++ four p.src ++ four p.dst ++ p.opt) := by unfold Hid hdE; rw [hl, hy, hkp]
  rw [hkp]
  have y0 : 69 ≤ y := by omega
  have y1 : y ≤ 79 := by omega
  have HL := Lib.hid hl
  clear hl hkp
  obtain ⟨k, hk⟩ : ∃ k : Nat, w.heap.size = k := ⟨_, rfl⟩
  obtain ⟨w1, hw1⟩ : ∃ w1, w.alloc (.cells #[.int .u8 p.tos, .int .u16 p.id, .bool kp, .int .u8 p.ttl, .int .u8 p.proto, .int .u32 p.src, .int .u32 p.dst, .slice A1 n1 c1, .slice A2 n2 c2] 26) = w1 := ⟨_, rfl⟩
  have B0 : Blk w1 k #[.int .u8 p.tos, .int .u16 p.id, .bool kp, .int .u8 p.ttl, .int .u8 p.proto, .int .u32 p.src, .int .u32 p.dst, .slice A1 n1 c1, .slice A2 n2 c2] 26 := by rw [← hw1]; exact blk_new w _ _ k hk
  have R1 : Below w.heap.size w w1 := by rw [← hw1]; (repeat (first | with_reducible exact Below.refl _ _ | with_reducible refine below_drew ?_ | with_reducible refine below_drewN ?_ _ | with_reducible refine below_alloc ?_ (Nat.le_refl _) _ | with_reducible refine Below.setCell ?_ (by first | exact Nat.le_refl _ | (simp only []; omega)) _ | with_reducible assumption))
  have x1 := k1.below R1
  have q0 := B0.cell
  have L0 := fun W => lit2 (e := 5) (x := y) (y := p.tos) (by omega) (by omega) o1 o1' W
  have L4 := fun W => lit4 (e := 5) (x := p.ttl) (y := p.proto) (z := 0) (u := 0) o3 o3' o4 o4' (by omega) (by omega) (by omega) (by omega) W
  have L3 := fun W => lit2 (e := 5) (x := 64) (y := 0) (by omega) (by omega) (by omega) (by omega) W
  have L3' := fun W => lit2 (e := 5) (x := 0) (y := 0) (by omega) (by omega) (by omega) (by omega) W
  go_enter Try.func33, Try.ntmps33
  cases kp
  all_goals go_wp2_with (first
    | (go_at_call 41; go_loud ((with_reducible refine (two_any all a0 a1 _).mono ?_); rintro e w2 ⟨A2', c2', rfl, ho2, hB2⟩; have t2 := (L0 w1).below hB2))
    | (at_builtin; go_loud (refine wpList_append_bs (w0 := w1) _ rfl _ _ _ rfl w1.heap.size 5 Try.underlying24 info_u8 _ 2 2 [ub y, ub p.tos] rfl t2 A2' 2 c2' (two all) rfl ho2.bs (below_then (below_alloc (Below.refl _ w1) (Nat.le_refl _) _) hB2) (by omega) (by first | exact Nat.le_refl _ | exact Below.size (below_then (below_alloc (Below.refl _ w1) (Nat.le_refl _) _) hB2) | omega | (simp <;> omega)) ?_); intro A3 n3 c3 w3 ho3 hB3 _ hz3; have u3 : n3 = 4 := (by rw [← ho3.len]; rfl); subst u3; have g3 := (B0.below hB3).cell)
    | (go_at_call 41; go_loud ((with_reducible refine (two_any p.id o2 o2' w3).mono ?_); rintro e w4 ⟨A4, c4, rfl, ho4, hB4⟩; have t4 := ho3.below hB4; have T4 := below_then hB3 hB4))
    | (at_builtin; go_loud (refine wpList_append_bs (w0 := w1) _ rfl _ _ _ rfl w1.heap.size 5 Try.underlying24 info_u8 A3 4 c3 _ rfl t4 A4 2 c4 (two p.id) rfl ho4.bs T4 (by omega) (by first | exact Nat.le_refl _ | exact Below.size T4 | omega | (simp <;> omega)) ?_); intro A5 n5 c5 w5 ho5 hB5 _ hz5; have u5 : n5 = 6 := (by rw [← ho5.len]; rfl); subst u5; have g5 := (B0.below hB5).cell)
    | (at_builtin; go_loud (refine wpList_append_bs (w0 := w1) _ rfl _ _ _ rfl w1.heap.size 5 Try.underlying24 info_u8 A5 6 c5 _ rfl (ho5.alloc _) (some ⟨_, 0, none⟩) 2 2 [ub 64, ub 0] rfl ((L3 w5).bs) (below_alloc hB5 (Nat.le_refl _) _) (by omega) (by first | exact Nat.le_refl _ | exact Below.size (below_alloc hB5 (Nat.le_refl _) _) | omega | (simp <;> omega)) ?_); intro A6 n6 c6 w6 ho6 hB6 _ hz6; have u6 : n6 = 8 := (by rw [← ho6.len]; rfl); subst u6; have g6 := (B0.below hB6).cell)
    | (at_builtin; go_loud (refine wpList_append_bs (w0 := w1) _ rfl _ _ _ rfl w1.heap.size 5 Try.underlying24 info_u8 A5 6 c5 _ rfl (ho5.alloc _) (some ⟨_, 0, none⟩) 2 2 [ub 0, ub 0] rfl ((L3' w5).bs) (below_alloc hB5 (Nat.le_refl _) _) (by omega) (by first | exact Nat.le_refl _ | exact Below.size (below_alloc hB5 (Nat.le_refl _) _) | omega | (simp <;> omega)) ?_); intro A6 n6 c6 w6 ho6 hB6 _ hz6; have u6 : n6 = 8 := (by rw [← ho6.len]; rfl); subst u6; have g6 := (B0.below hB6).cell)
    | (at_builtin; go_loud (refine wpList_append_bs (w0 := w1) _ rfl _ _ _ rfl w1.heap.size 5 Try.underlying24 info_u8 A6 8 c6 _ rfl (ho6.alloc _) (some ⟨_, 0, none⟩) 4 4 _ rfl ((L4 w6).bs) (below_alloc hB6 (Nat.le_refl _) _) (by omega) (by first | exact Nat.le_refl _ | exact Below.size (below_alloc hB6 (Nat.le_refl _) _) | omega | (simp <;> omega)) ?_); intro A7 n7 c7 w7 ho7 hB7 _ hz7; have u7 : n7 = 12 := (by rw [← ho7.len]; rfl); subst u7; have g7 := (B0.below hB7).cell)
    | (go_at_call 42; go_loud ((with_reducible refine (four_any p.src o5 o5' w7).mono ?_); rintro e w8 ⟨A8, c8, rfl, ho8, hB8⟩; have t8 := ho7.below hB8; have T8 := below_then hB7 hB8))
    | (at_builtin; go_loud (refine wpList_append_bs (w0 := w1) _ rfl _ _ _ rfl w1.heap.size 5 Try.underlying24 info_u8 A7 12 c7 _ rfl t8 A8 4 c8 (four p.src) rfl ho8.bs T8 (by omega) (by first | exact Nat.le_refl _ | exact Below.size T8 | omega | (simp <;> omega)) ?_); intro A9 n9 c9 w9 ho9 hB9 _ hz9; have u9 : n9 = 16 := (by rw [← ho9.len]; rfl); subst u9; have g9 := (B0.below hB9).cell)
    | (go_at_call 42; go_loud ((with_reducible refine (four_any p.dst o6 o6' w9).mono ?_); rintro e w10 ⟨A10, c10, rfl, ho10, hB10⟩; have t10 := ho9.below hB10; have T10 := below_then hB9 hB10))
    | (at_builtin; go_loud (refine wpList_append_bs (w0 := w1) _ rfl _ _ _ rfl w1.heap.size 5 Try.underlying24 info_u8 A9 16 c9 _ rfl t10 A10 4 c10 (four p.dst) rfl ho10.bs T10 (by omega) (by first | exact Nat.le_refl _ | exact Below.size T10 | omega | (simp <;> omega)) ?_); intro A11 n11 c11 w11 ho11 hB11 _ hz11; have u11 : n11 = 20 := (by rw [← ho11.len]; rfl); subst u11; have g11 := (B0.below hB11).cell)
    | (at_builtin; go_loud (refine wpList_append_bs (w0 := w1) _ rfl _ _ _ rfl w1.heap.size 5 Try.underlying24 info_u8 A11 20 c11 _ rfl ho11 A1 n1 c1 p.opt rfl (x1.below hB11) hB11 (by omega) (by first | exact Nat.le_refl _ | exact Below.size hB11 | omega | (simp <;> omega)) ?_); intro A12 n12 c12 w12 ho12 hB12 _ hz12; have u12 : n12 ≤ 60 := (by rw [← ho12.len, List.length_append, ho11.len, HL.out]; omega))
    | (go_at_call 44; go_loud ((with_reducible refine (rsum_any A12 n12 c12 _ (by omega) _ ho12.bs).mono ?_); rintro e w13 ⟨rfl, hB13⟩; have T13 := below_then hB12 hB13))
    | (go_at_call 43; go_loud ((with_reducible refine (rput16_any A12 n12 c12 _ 10 _ (csum_lo _) (csum_hi _) w13 (ho12.bs.below hB13)).mono ?_); rintro e w14 ⟨A14, c14, rfl, ho14, hB14⟩; have T14 := below_then T13 hB14)))
  all_goals go_ret
  all_goals refine ⟨A14, n12, c14, rfl, ?_, below_then R1 T14⟩
  all_goals rw [HE.out]
  all_goals exact ho14.mono (Nat.le_trans R1.size T13.size)
theorem rbuild_any (p : Pkt) (hp : p.Ok) (A1 : Option Addr) (n1 c1 : Nat) (A2 : Option Addr) (n2 c2 : Nat) (w : World) (k1 : Bs w A1 n1 c1 p.opt) (k2 : Bs w A2 n2 c2 p.dat)
    (h1 : (n1 : Int) ≤ 40) (h2 : ((n1 : Int) % 4 != 0) = false) (h3 : 20 + (n1 : Int) + n2 ≤ 65535) :
    Calls Try.prog 15 #[(.agg #[.int .u8 (p).tos, .int .u16 (p).id, .bool (p).keep, .int .u8 (p).ttl, .int .u8 (p).proto, .int .u32 (p).src, .int .u32 (p).dst, .slice A1 n1 c1, .slice A2 n2 c2])] w fun e w' => ∃ A n c, e = .returned (.tuple #[.slice A n c, .int .i64 0]) ∧ Own w' w.heap.size 5 A n c (put16 (hdE p (20 + (n1 : Int) + n2)) 10 (csum (hdE p (20 + (n1 : Int) + n2))) ++ p.dat) ∧ Below w.heap.size w w' := by
  have b1 := k1.max
  have b2 := k2.max
  have hl := k1.len
  obtain ⟨m, hm⟩ : ∃ m : Int, 20 + (n1 : Int) = m := ⟨_, rfl⟩
  obtain ⟨z, hz⟩ : ∃ z : Int, m + (n2 : Int) = z := ⟨_, rfl⟩
  rw [hm, hz]
  have z0 : 0 ≤ z := by omega
  have z1 : z ≤ 65535 := by omega
  obtain ⟨X, hX⟩ : ∃ X, put16 (hdE p z) 10 (csum (hdE p z)) = X := ⟨_, rfl⟩
  have hXl : X.length ≤ 60 := by rw [← hX, put16_length]; unfold hdE; simp [two, four]; omega
  have hc := fun W k => header_any p hp z z0 z1 A1 n1 c1 A2 n2 c2 W k h1
  rw [hX] at hc ⊢
  have HX := Lib.hid hX
  have HXl := Lib.hid hXl
  clear hX hXl hl
  obtain ⟨k, hk⟩ : ∃ k : Nat, w.heap.size = k := ⟨_, rfl⟩
  obtain ⟨w1, hw1⟩ : ∃ w1, w.alloc (.cells #[.int .u8 p.tos, .int .u16 p.id, .bool p.keep, .int .u8 p.ttl, .int .u8 p.proto, .int .u32 p.src, .int .u32 p.dst, .slice A1 n1 c1, .slice A2 n2 c2] 26) = w1 := ⟨_, rfl⟩
  have B0 : Blk w1 k #[.int .u8 p.tos, .int .u16 p.id, .bool p.keep, .int .u8 p.ttl, .int .u8 p.proto, .int .u32 p.src, .int .u32 p.dst, .slice A1 n1 c1, .slice A2 n2 c2] 26 := by rw [← hw1]; exact blk_new w _ _ k hk
  have R1 : Below w.heap.size w w1 := by rw [← hw1]; (repeat (first | with_reducible exact Below.refl _ _ | with_reducible refine below_drew ?_ | with_reducible refine below_drewN ?_ _ | with_reducible refine below_alloc ?_ (Nat.le_refl _) _ | with_reducible refine Below.setCell ?_ (by first | exact Nat.le_refl _ | (simp only []; omega)) _ | with_reducible assumption))
  have x1 := k1.below R1
  have x2 := k2.below R1
  have q0 := B0.cell
  go_enter Try.func15, Try.ntmps15
  go_wp2_with fail
  refine region_txt 5 (by kernel_rfl) (by kernel_rfl) ?_; (iterate 5 (first | (apply ObsK.skip (by rfl)) | (apply ObsK.v (by rfl); (intro wo hT; (repeat (first | (intro v hv; skip) | (intro _ _ k; try have hcv := cv k))); (have bo := x1.below hT; have gc := (B0.below hT).cell; have hsz := hT.size); refine Goes.mk ?_; go_simp; first | exact goes_v | exact goes_b (by assumption) | (refine goes_enter ?_; first | (go_at_call 33; go_loud ((with_reducible refine (hc wo bo).mono ?_); rintro e w9 ⟨A9, n9, c9, rfl, ho9, hB9⟩; exact ret_p (own_isW ho9 hsz) hB9))))) | (apply ObsK.b (by rfl); (intro wo hT; (repeat (first | (intro v hv; skip) | (intro _ _ k; try have hcv := cv k))); (have bo := x1.below hT; have gc := (B0.below hT).cell; have hsz := hT.size); refine Goes.mk ?_; go_simp; first | exact goes_v | exact goes_b (by assumption) | (refine goes_enter ?_; first | (go_at_call 33; go_loud ((with_reducible refine (hc wo bo).mono ?_); rintro e w9 ⟨A9, n9, c9, rfl, ho9, hB9⟩; exact ret_p (own_isW ho9 hsz) hB9))))) | (apply ObsK.p (q := isW w1.heap.size _) (by rfl) st_isW; (intro wo hT; (repeat (first | (intro v hv; skip) | (intro _ _ k; try have hcv := cv k))); (have bo := x1.below hT; have gc := (B0.below hT).cell; have hsz := hT.size); refine Goes.mk ?_; go_simp; first | exact goes_v | exact goes_b (by assumption) | (refine goes_enter ?_; first | (go_at_call 33; go_loud ((with_reducible refine (hc wo bo).mono ?_); rintro e w9 ⟨A9, n9, c9, rfl, ho9, hB9⟩; exact ret_p (own_isW ho9 hsz) hB9))))))); refine ObsK.nil ?_; intro wz hBz; simp only [finOn, List.drop_succ_cons, List.drop_zero, List.drop_nil]
  intro v9 hv9
  obtain ⟨A9, n9, c9, rfl, O9⟩ := hv9
  go_simp
  have G9 := (B0.below hBz).cell
  have s9 := hBz.size
  have u9 : n9 ≤ 60 := by rw [← O9.len]; exact HXl.out
  go_wp2_with (first
    | (at_builtin; go_loud (refine wpList_append_bs (w0 := w1) _ rfl _ _ _ rfl w1.heap.size 5 Try.underlying24 info_u8 A9 n9 c9 X rfl O9 A2 n2 c2 p.dat rfl (x2.below hBz) hBz (by omega) (by first | exact Nat.le_refl _ | exact Below.size hBz | omega | (simp <;> omega)) ?_); intro A10 n10 c10 w10 ho10 hB10 _ hz10))
  refine bodyPost_ret (v := .tuple #[.slice A10 n10 c10, .int .i64 0]) (by simp [results, Try.results15, go_sem]) rfl ⟨A10, n10, c10, rfl, ho10.mono R1.size, below_then R1 hB10⟩
theorem rbuild_form (p : Pkt) (A1 : Option Addr) (n1 c1 : Nat) (A2 : Option Addr) (n2 c2 : Nat) (w : World) (k1 : Bs w A1 n1 c1 p.opt) (k2 : Bs w A2 n2 c2 p.dat)
    (h1 : (n1 : Int) ≤ 40) (h2 : ((n1 : Int) % 4 != 0) = true) :
    Calls Try.prog 15 #[(.agg #[.int .u8 (p).tos, .int .u16 (p).id, .bool (p).keep, .int .u8 (p).ttl, .int .u8 (p).proto, .int .u32 (p).src, .int .u32 (p).dst, .slice A1 n1 c1, .slice A2 n2 c2])] w fun e w' => e = .returned (.tuple #[.slice none 0 0, .int .i64 4]) ∧ Below w.heap.size w w' := by
  have b1 := k1.max
  have b2 := k2.max
  go_enter Try.func15, Try.ntmps15
  go_wp2_with fail
  refine bodyPost_ret (v := .tuple #[.slice none 0 0, .int .i64 4]) (by simp [results, Try.results15, go_sem]) rfl ⟨rfl, by (repeat (first | with_reducible exact Below.refl _ _ | with_reducible refine below_drew ?_ | with_reducible refine below_drewN ?_ _ | with_reducible refine below_alloc ?_ (Nat.le_refl _) _ | with_reducible refine Below.setCell ?_ (by first | exact Nat.le_refl _ | (simp only []; omega)) _ | with_reducible assumption))⟩
theorem rbuild_opt (p : Pkt) (A1 : Option Addr) (n1 c1 : Nat) (A2 : Option Addr) (n2 c2 : Nat) (w : World) (k1 : Bs w A1 n1 c1 p.opt) (k2 : Bs w A2 n2 c2 p.dat)
    (h1 : 40 < (n1 : Int)) :
    Calls Try.prog 15 #[(.agg #[.int .u8 (p).tos, .int .u16 (p).id, .bool (p).keep, .int .u8 (p).ttl, .int .u8 (p).proto, .int .u32 (p).src, .int .u32 (p).dst, .slice A1 n1 c1, .slice A2 n2 c2])] w fun e w' => e = .returned (.tuple #[.slice none 0 0, .int .i64 4]) ∧ Below w.heap.size w w' := by
  have b1 := k1.max
  have b2 := k2.max
  go_enter Try.func15, Try.ntmps15
  go_wp2_with fail
  refine bodyPost_ret (v := .tuple #[.slice none 0 0, .int .i64 4]) (by simp [results, Try.results15, go_sem]) rfl ⟨rfl, by (repeat (first | with_reducible exact Below.refl _ _ | with_reducible refine below_drew ?_ | with_reducible refine below_drewN ?_ _ | with_reducible refine below_alloc ?_ (Nat.le_refl _) _ | with_reducible refine Below.setCell ?_ (by first | exact Nat.le_refl _ | (simp only []; omega)) _ | with_reducible assumption))⟩
theorem rbuild_long (p : Pkt) (A1 : Option Addr) (n1 c1 : Nat) (A2 : Option Addr) (n2 c2 : Nat) (w : World) (k1 : Bs w A1 n1 c1 p.opt) (k2 : Bs w A2 n2 c2 p.dat)
    (h1 : (n1 : Int) ≤ 40) (h2 : ((n1 : Int) % 4 != 0) = false) (h3 : 65535 < 20 + (n1 : Int) + n2) :
    Calls Try.prog 15 #[(.agg #[.int .u8 (p).tos, .int .u16 (p).id, .bool (p).keep, .int .u8 (p).ttl, .int .u8 (p).proto, .int .u32 (p).src, .int .u32 (p).dst, .slice A1 n1 c1, .slice A2 n2 c2])] w fun e w' => e = .returned (.tuple #[.slice none 0 0, .int .i64 8]) ∧ Below w.heap.size w w' := by
  have b1 := k1.max
  have b2 := k2.max
  go_enter Try.func15, Try.ntmps15
  go_wp2_with fail
  refine bodyPost_ret (v := .tuple #[.slice none 0 0, .int .i64 8]) (by simp [results, Try.results15, go_sem]) rfl ⟨rfl, by (repeat (first | with_reducible exact Below.refl _ _ | with_reducible refine below_drew ?_ | with_reducible refine below_drewN ?_ _ | with_reducible refine below_alloc ?_ (Nat.le_refl _) _ | with_reducible refine Below.setCell ?_ (by first | exact Nat.le_refl _ | (simp only []; omega)) _ | with_reducible assumption))⟩
end Go.Proofs.Ytkjhickjgncheaa

import Derived.Test.YtogbncpchmnbdaaReg
import Derived.Test.YtogbncpchmnbdaaWire
import Derived.Test.YtogbncpchmnbdaaSum
import Derived.Test.YtogbncpchmnbdaaSmall
import Derived.Test.YtogbncpchmnbdaaPkt
import Derived.Test.YtogbncpchmnbdaaBits
import Derived.BigRegion
namespace Go.Proofs.Ytogbncpchmnbdaa
open Go.RowKit
set_option linter.unusedVariables false
set_option linter.unusedSimpArgs false
set_option linter.unusedSimpArgs false
set_option maxHeartbeats 4000000
set_option maxRecDepth 100000

def bdE (p : Pkt) : Int := if 40 < p.opt.length ∨ p.opt.length % 4 ≠ 0 then 4 else if 65535 < 20 + p.opt.length + p.dat.length then 8 else 0
theorem own_cap (w : World) (base : Nat) (e : TypeId) (n cap : Nat) (h : n ≤ cap) (hm : cap ≤ 200000000000000) (hb : base ≤ w.heap.size) :
    Own (w.alloc (.cells (cu (zs cap)).toArray e)) base e (some ⟨w.heap.size, 0, none⟩) n cap (zs n) :=
  ⟨zs_length n, by omega, by simp [cu_length, zs_length], .inr ⟨_, cap, _, rfl, hb, heap_alloc_new .., h, by simp only [maxLen]; omega, by simp [cu_length, zs_length], by simp [cu, zs, List.take_replicate, Nat.min_eq_left h]⟩⟩
theorem own_capk (w : World) (k : Nat) (hk : w.heap.size = k) (base : Nat) (e : TypeId) (n cap : Nat) (h : n ≤ cap) (hm : cap ≤ 200000000000000) (hb : base ≤ k) :
    Own (w.alloc (.cells (cu (zs cap)).toArray e)) base e (some ⟨k, 0, none⟩) n cap (zs n) := by
  subst hk
  exact own_cap w base e n cap h hm hb
theorem run_make_cap {P : Program} (t e : TypeId) (ht : P.underlying t = some (.slice e)) (hinfo : (P.info? e).map (fun i => (i.zero, i.size, i.bytes)) = some (some (.int .u8 0), 1, 1)) (kl kc : IntKind) (n cap : Int) (m c : Nat) (hn : n = (m : Int)) (hc : cap = (c : Int)) (h : m ≤ c) (hm : c ≤ 200000000000000) (W : World) :
    (Instr.makeSlice t (.int kl n) (.int kc cap)).run P W = .ok (.slice (some ⟨W.heap.size, 0, none⟩) m c) (W.alloc (.cells (cu (zs c)).toArray e)) := by
  subst hn hc
  obtain ⟨i, hi, hz, hs, hb⟩ := info_parts hinfo
  have hr := run_make (P := P) W t e i (.int .u8 0) ht hi hz kl kc m c (by omega) (by omega) (by rw [hb]; omega) (by omega)
  simp only [Int.toNat_natCast, hs, Nat.mul_one] at hr
  rw [hr, cu_zs]
  rfl
theorem or_64 {x : Int} (h0 : 5 ≤ x) (h1 : x ≤ 15) : bits .or .i64 64 x = 64 + x := by
  have : x = 5 ∨ x = 6 ∨ x = 7 ∨ x = 8 ∨ x = 9 ∨ x = 10 ∨ x = 11 ∨ x = 12 ∨ x = 13 ∨ x = 14 ∨ x = 15 := by omega
  rcases this with rfl | rfl | rfl | rfl | rfl | rfl | rfl | rfl | rfl | rfl | rfl <;> decide
def ldR (p : Pkt) : List UInt8 := ((((zs 20).set 0 (ub (64 + (20 + (p.opt.length : Int)) / 4))).set 1 (ub p.tos)).set 8 (ub p.ttl)).set 9 (ub p.proto)
def hdR (p : Pkt) : List UInt8 := put32 (put32 (put16 (put16 (if p.keep = true then (ldR p).set 6 (ub 64) else ldR p) 2 (20 + (p.opt.length : Int) + (p.dat.length : Int))) 4 p.id) 12 p.src) 16 p.dst ++ p.opt
def bdR (p : Pkt) : List UInt8 := put16 (hdR p) 10 (csum (hdR p)) ++ p.dat
def isO (B n : Nat) (l : List UInt8) : World → Value → Prop := fun W v => ∃ A c, v = .slice A n c ∧ Own W B 5 A n c l
theorem st_isO {B n : Nat} {l : List UInt8} : ∀ w w' v, isO B n l w v → Below w.heap.size w w' → isO B n l w' v := fun _ _ _ ⟨A, c, e, k⟩ hb => ⟨A, c, e, k.below hb⟩
theorem own_isO {w : World} {base B : Nat} {A : Option Addr} {n c : Nat} {l : List UInt8} (h : Own w base 5 A n c l) (hr : B ≤ base) : isO B n l w (.slice A n c) := ⟨A, c, rfl, h.mono hr⟩
theorem build_any (p : Pkt) (hp : p.Ok) (A1 : Option Addr) (n1 c1 : Nat) (A2 : Option Addr) (n2 c2 : Nat) (w : World) (k1 : Bs w A1 n1 c1 p.opt) (k2 : Bs w A2 n2 c2 p.dat)
    (h1 : (n1 : Int) ≤ 40) (h2 : ((n1 : Int) % 4 != 0) = false) (h3 : 20 + (n1 : Int) + n2 ≤ 65535) :
    Calls Try.prog 35 #[(.agg #[.int .u8 (p).tos, .int .u16 (p).id, .bool (p).keep, .int .u8 (p).ttl, .int .u8 (p).proto, .int .u32 (p).src, .int .u32 (p).dst, .slice A1 n1 c1, .slice A2 n2 c2])] w fun e w' => ∃ A n c, e = .returned (.tuple #[.slice A n c, .int .i64 0]) ∧ Own w' w.heap.size 5 A n c (bdR p) ∧ Below w.heap.size w w' := by
  have b1 := k1.max
  have b2 := k2.max
  obtain ⟨⟨o1, o1'⟩, ⟨o2, o2'⟩, ⟨o3, o3'⟩, ⟨o4, o4'⟩, ⟨o5, o5'⟩, ⟨o6, o6'⟩⟩ := hp
  obtain ⟨kp, hkp⟩ : ∃ kp, p.keep = kp := ⟨_, rfl⟩
  rw [hkp]
  obtain ⟨m, hm⟩ : ∃ m : Int, 20 + (n1 : Int) = m := ⟨_, rfl⟩
  obtain ⟨z, hz⟩ : ∃ z : Int, m + (n2 : Int) = z := ⟨_, rfl⟩
  have m0 : 20 ≤ m := by omega
  have m1 : m ≤ 60 := by omega
  have z0 : 20 ≤ z := by omega
  have z1 : z ≤ 65535 := by omega
  have hor := or_64 (x := m / 4) (by omega) (by omega)
  obtain ⟨y, hy⟩ : ∃ y : Int, 64 + m / 4 = y := ⟨_, rfl⟩
  rw [hy] at hor
  have y0 : 69 ≤ y := by omega
  have y1 : y ≤ 79 := by omega
  have HY := Lib.hid hy
  have hmk := run_make_cap (P := Try.prog) 24 5 Try.underlying24 info_u8 .i64 .i64 20 z 20 (20 + n1 + n2) rfl (by omega) (by omega) (by omega)
  clear hy h3
  generalize hc : 20 + n1 + n2 = c at hmk
  have c0 : 20 ≤ c := by omega
  have cz : (c : Int) = z := by omega
  have hcm : c ≤ 65535 := by omega
  clear hc
  obtain ⟨k, hk⟩ : ∃ k : Nat, w.heap.size = k := ⟨_, rfl⟩
  obtain ⟨w1, hw1⟩ : ∃ w1, w.alloc (.cells #[.int .u8 p.tos, .int .u16 p.id, .bool kp, .int .u8 p.ttl, .int .u8 p.proto, .int .u32 p.src, .int .u32 p.dst, .slice A1 n1 c1, .slice A2 n2 c2] 26) = w1 := ⟨_, rfl⟩
  have B0 : Blk w1 k #[.int .u8 p.tos, .int .u16 p.id, .bool kp, .int .u8 p.ttl, .int .u8 p.proto, .int .u32 p.src, .int .u32 p.dst, .slice A1 n1 c1, .slice A2 n2 c2] 26 := by rw [← hw1]; exact blk_new w _ _ k hk
  have R1 : Below w.heap.size w w1 := by rw [← hw1]; (repeat (first | with_reducible exact Below.refl _ _ | with_reducible refine below_drew ?_ | with_reducible refine below_drewN ?_ _ | with_reducible refine below_alloc ?_ (Nat.le_refl _) _ | with_reducible refine Below.setCell ?_ (by first | exact Nat.le_refl _ | (simp only []; omega)) _ | with_reducible assumption))
  obtain ⟨g, hg⟩ : ∃ g : Nat, k + 1 = g := ⟨_, rfl⟩
  have hg1 : w1.heap.size = g := by rw [← hw1, ← hg]; simp [hk]
  have x1 := k1.below R1
  have x2 := k2.below R1
  have O0 := own_capk w1 g hg1 w1.heap.size 5 20 c c0 (by omega) (by omega)
  have T0 : Below w1.heap.size w1 (w1.alloc (.cells (cu (zs c)).toArray 5)) := by (repeat (first | with_reducible exact Below.refl _ _ | with_reducible refine below_drew ?_ | with_reducible refine below_drewN ?_ _ | with_reducible refine below_alloc ?_ (Nat.le_refl _) _ | with_reducible refine Below.setCell ?_ (by first | exact Nat.le_refl _ | (simp only []; omega)) _ | with_reducible assumption))
  have hgk : g ≠ k := by omega
  have hkg : k ≠ g := by omega
  have q0 := B0.cell
  have q1 := (B0.below T0).cell
  clear hg
  go_enter Try.func35, Try.ntmps35
  go_wp2_with fail
  clear q0 q1
  generalize hW0 : w1.alloc (.cells (cu (zs c)).toArray 5) = W0 at O0 T0 ⊢
  clear hW0
  have B1 := B0.below T0
  have hgb : w1.heap.size ≤ g := by omega
  have D0 := O0
  have E0 := B1
  have D1 := D0.set_ (i := 0) (by omega) y (y := y) (by omega)
  have E1 := E0.far ⟨g, 0, none⟩ hgk (.int .u8 y)
  have D2 := D1.set_ (i := 1) (by omega) p.tos (y := p.tos) (by omega)
  have E2 := E1.far ⟨g, 1, none⟩ hgk (.int .u8 p.tos)
  have D3 := D2.set_ (i := 8) (by omega) p.ttl (y := p.ttl) (by omega)
  have E3 := E2.far ⟨g, 8, none⟩ hgk (.int .u8 p.ttl)
  have D4 := D3.set_ (i := 9) (by omega) p.proto (y := p.proto) (by omega)
  have E4 := E3.far ⟨g, 9, none⟩ hgk (.int .u8 p.proto)
  have T4 := ((T0.setCell (p := ⟨g, 0, none⟩) hgb (.int .u8 y)).setCell (p := ⟨g, 1, none⟩) hgb (.int .u8 p.tos)).setCell (p := ⟨g, 8, none⟩) hgb (.int .u8 p.ttl) |>.setCell (p := ⟨g, 9, none⟩) hgb (.int .u8 p.proto)
  have e0 := E0.cell
  have e1 := E1.cell
  have e2 := E2.cell
  have e3 := E3.cell
  have d0 := D0.at_ (i := 0) (by omega)
  have d1 := D1.at_ (i := 1) (by omega)
  have d2 := D2.at_ (i := 8) (by omega)
  have d3 := D3.at_ (i := 9) (by omega)
  have f0 := O0.at_ (i := 0) (by omega)
  have f1 := O0.at_ (i := 1) (by omega)
  have f8 := O0.at_ (i := 8) (by omega)
  have f9 := O0.at_ (i := 9) (by omega)
  clear B1 T0
  go_region
  have O4 := D4.drew
  have T4' := below_drew T4
  clear e0 e1 e2 e3 d0 d1 d2 d3 f0 f1 f8 f9 D0 D1 D2 D3 E0 E1 E2 E3 E4
  generalize ((((W0.setCell ⟨g, 0, none⟩ (.int .u8 y)).setCell ⟨g, 1, none⟩ (.int .u8 p.tos)).setCell ⟨g, 8, none⟩ (.int .u8 p.ttl)).setCell ⟨g, 9, none⟩ (.int .u8 p.proto)).drew = W4 at O4 T4' ⊢
  clear D4 T4 O0
  have E4 := B0.below T4'
  obtain ⟨L4, hL4⟩ : ∃ L4, ((((zs 20).set 0 (ub y)).set 1 (ub p.tos)).set 8 (ub p.ttl)).set 9 (ub p.proto) = L4 := ⟨_, rfl⟩
  rw [hL4] at O4
  have HL4 := Lib.hid hL4
  clear hL4
  have gc5 := E4.cell
  have d6 := O4.at_ (i := 6) (by omega)
  have hw1' : IntKind.i64.wrap z = z := by rw [IntKind.wrap_i64]; omega
  have hw2' : IntKind.u16.wrap z = z := by first | (rw [IntKind.wrap_u16]; omega) | (simp [IntKind.wrap, IntKind.signed, IntKind.bits]; omega)
  cases kp
  · go_wp2_with fail
    have O5 := O4
    have T5 := T4'
    clear gc5 d6 E4
    obtain ⟨L5, hL5⟩ : ∃ L5, L4 = L5 := ⟨_, rfl⟩
    rw [hL5] at O5
    have HL5 := Lib.hid hL5
    clear hL5 O4
    have E5 := B0.below T5
    have y1 := x1.below T5
    refine region_txt 11 (by kernel_rfl) (by kernel_rfl) ?_; (iterate 11 (first | (apply ObsK.skip (by rfl)) | (apply ObsK.v (by rfl); (intro wo hT; (repeat (first | (intro _ _ k; try have hcv := cv k))); (have bo := O5.bs.below hT; have gc := (E5.below hT).cell); refine Goes.mk ?_; go_simp; first | exact goes_v | exact goes_b (by assumption) | (refine goes_enter ?_; first | (go_at_call 39; ((with_reducible refine (put16_any (some ⟨g, 0, none⟩) 20 c L5 2 z (by omega) z1 wo bo).mono ?_); rintro e w9 ⟨A9, c9, rfl, ho9, hB9⟩); exact ret_b ho9.bs hB9) | (go_at_call 39; ((with_reducible refine (put16_any _ 20 _ (put16 L5 2 z) 4 p.id o2 o2' wo (by assumption)).mono ?_); rintro e w9 ⟨A9, c9, rfl, ho9, hB9⟩); exact ret_b ho9.bs hB9)))) | (apply ObsK.b (by rfl); (intro wo hT; (repeat (first | (intro _ _ k; try have hcv := cv k))); (have bo := O5.bs.below hT; have gc := (E5.below hT).cell); refine Goes.mk ?_; go_simp; first | exact goes_v | exact goes_b (by assumption) | (refine goes_enter ?_; first | (go_at_call 39; ((with_reducible refine (put16_any (some ⟨g, 0, none⟩) 20 c L5 2 z (by omega) z1 wo bo).mono ?_); rintro e w9 ⟨A9, c9, rfl, ho9, hB9⟩); exact ret_b ho9.bs hB9) | (go_at_call 39; ((with_reducible refine (put16_any _ 20 _ (put16 L5 2 z) 4 p.id o2 o2' wo (by assumption)).mono ?_); rintro e w9 ⟨A9, c9, rfl, ho9, hB9⟩); exact ret_b ho9.bs hB9)))))); refine ObsK.nil ?_; intro wz hBz; simp only [finOn, List.drop_succ_cons, List.drop_zero, List.drop_nil]
    intro A7 c7 k7 A6 c6 k6
    go_simp
    have T6 := below_then T5 hBz
    have E6 := B0.below T6
    clear hBz
    go_wp2_with fail
    refine region_txt 7 (by kernel_rfl) (by kernel_rfl) ?_; (iterate 7 (first | (apply ObsK.skip (by rfl)) | (apply ObsK.v (by rfl); (intro wo hT; (repeat (first | (intro v hv; ((obtain ⟨A8, c8, rfl, ho8⟩ := hv; have k8 := ho8.bs))) | (intro _ _ k; try have hcv := cv k))); (have k7' := k7.below hT; have gc := (E6.below hT).cell; have hsz : g ≤ wo.heap.size := (by rw [← hg1]; exact (below_then T6 hT).size)); refine Goes.mk ?_; go_simp; first | exact goes_v | exact goes_b (by assumption) | (refine goes_enter ?_; first | (go_at_call 37; ((with_reducible refine (put32_any A7 20 c7 _ 12 p.src o5 o5' wo k7').mono ?_); rintro e w9 ⟨A9, c9, rfl, ho9, hB9⟩); exact ret_p (own_isO ho9 hsz) hB9) | (go_at_call 37; ((with_reducible refine (put32_any _ 20 _ _ 16 p.dst o6 o6' wo (by assumption)).mono ?_); rintro e w9 ⟨A9, c9, rfl, ho9, hB9⟩); exact ret_p (own_isO ho9 hsz) hB9)))) | (apply ObsK.b (by rfl); (intro wo hT; (repeat (first | (intro v hv; ((obtain ⟨A8, c8, rfl, ho8⟩ := hv; have k8 := ho8.bs))) | (intro _ _ k; try have hcv := cv k))); (have k7' := k7.below hT; have gc := (E6.below hT).cell; have hsz : g ≤ wo.heap.size := (by rw [← hg1]; exact (below_then T6 hT).size)); refine Goes.mk ?_; go_simp; first | exact goes_v | exact goes_b (by assumption) | (refine goes_enter ?_; first | (go_at_call 37; ((with_reducible refine (put32_any A7 20 c7 _ 12 p.src o5 o5' wo k7').mono ?_); rintro e w9 ⟨A9, c9, rfl, ho9, hB9⟩); exact ret_p (own_isO ho9 hsz) hB9) | (go_at_call 37; ((with_reducible refine (put32_any _ 20 _ _ 16 p.dst o6 o6' wo (by assumption)).mono ?_); rintro e w9 ⟨A9, c9, rfl, ho9, hB9⟩); exact ret_p (own_isO ho9 hsz) hB9)))) | (apply ObsK.p (q := isO g _ _) (by rfl) st_isO; (intro wo hT; (repeat (first | (intro v hv; ((obtain ⟨A8, c8, rfl, ho8⟩ := hv; have k8 := ho8.bs))) | (intro _ _ k; try have hcv := cv k))); (have k7' := k7.below hT; have gc := (E6.below hT).cell; have hsz : g ≤ wo.heap.size := (by rw [← hg1]; exact (below_then T6 hT).size)); refine Goes.mk ?_; go_simp; first | exact goes_v | exact goes_b (by assumption) | (refine goes_enter ?_; first | (go_at_call 37; ((with_reducible refine (put32_any A7 20 c7 _ 12 p.src o5 o5' wo k7').mono ?_); rintro e w9 ⟨A9, c9, rfl, ho9, hB9⟩); exact ret_p (own_isO ho9 hsz) hB9) | (go_at_call 37; ((with_reducible refine (put32_any _ 20 _ _ 16 p.dst o6 o6' wo (by assumption)).mono ?_); rintro e w9 ⟨A9, c9, rfl, ho9, hB9⟩); exact ret_p (own_isO ho9 hsz) hB9)))))); refine ObsK.nil ?_; intro wz hBz; simp only [finOn, List.drop_succ_cons, List.drop_zero, List.drop_nil]
    intro v9 hv9 v8 hv8
    obtain ⟨A9, c9, rfl, O9⟩ := hv9
    rw [← hg1] at O9
    obtain ⟨A8, c8, rfl, O8⟩ := hv8
    go_simp
    have T9 := below_then T6 hBz
    have E9 := (B0.below T9).cell
    clear E5 E6 T5 T6 hBz k6 k7 O5
    have s9 := T9.size
    go_wp2_with (first
      | (at_builtin; refine wpList_append_bs (w0 := w1) _ rfl _ _ _ rfl w1.heap.size 5 Try.underlying24 info_u8 A9 20 c9 _ rfl O9 A1 n1 c1 p.opt rfl (x1.below T9) T9 (by omega) (by first | exact Nat.le_refl _ | exact Below.size T9 | omega | (simp <;> omega)) ?_; intro A10 n10 c10 w10 ho10 hB10 _ hz10; have u10 : n10 ≤ 60 := (by rw [← ho10.len, List.length_append, O9.len, x1.len]; omega); have E10 := (B0.below hB10).cell)
      | (go_at_call 40; ((with_reducible refine (sum_any A10 n10 c10 _ _ ho10.bs).mono ?_); rintro e w11 ⟨rfl, hB11⟩); have T11 := below_then hB10 hB11)
      | (go_at_call 39; ((with_reducible refine (put16_any A10 n10 c10 _ 10 _ (csum_lo _) (csum_hi _) w11 (ho10.bs.below hB11)).mono ?_); rintro e w12 ⟨A12, c12, rfl, ho12, hB12⟩); have T12 := below_then T11 hB12; have s12 := T12.size; have E12 := (B0.below T12).cell)
      | (at_builtin; refine wpList_append_bs (w0 := w1) _ rfl _ _ _ rfl w1.heap.size 5 Try.underlying24 info_u8 A12 n10 c12 _ rfl (ho12.mono T11.size) A2 n2 c2 p.dat rfl (x2.below T12) T12 (by omega) (by first | exact Nat.le_refl _ | exact Below.size T12 | omega | (simp <;> omega)) ?_; intro A13 n13 c13 w13 ho13 hB13 _ hz13))
    have hl : ldR p = L4 := by unfold ldR; rw [x1.len, hm, HY.out, HL4.out]
    have hh : hdR p = put32 (put32 (put16 (put16 L5 2 z) 4 p.id) 12 p.src) 16 p.dst ++ p.opt := by unfold hdR; rw [hkp, hl, x1.len, x2.len, hm, hz, if_neg (by decide), HL5.out]
    refine bodyPost_ret (v := .tuple #[.slice A13 n13 c13, .int .i64 0]) (by simp [results, Try.results35, go_sem]) rfl ⟨A13, n13, c13, rfl, ?_, below_then R1 hB13⟩
    have hf := ho13.mono R1.size
    unfold bdR
    rw [hh]
    exact hf
  · go_wp2_with fail
    have O5 := O4.set_ (i := 6) (by omega) 64 (y := 64) (by omega)
    have T5 := T4'.setCell (p := ⟨g, 6, none⟩) hgb (.int .u8 64)
    clear gc5 d6 E4
    generalize W4.setCell ⟨g, 6, none⟩ (.int .u8 64) = W5 at O5 T5 ⊢
    obtain ⟨L5, hL5⟩ : ∃ L5, L4.set 6 (ub 64) = L5 := ⟨_, rfl⟩
    rw [hL5] at O5
    have HL5 := Lib.hid hL5
    clear hL5 O4 T4'
    have E5 := B0.below T5
    have y1 := x1.below T5
    refine region_txt 11 (by kernel_rfl) (by kernel_rfl) ?_; (iterate 11 (first | (apply ObsK.skip (by rfl)) | (apply ObsK.v (by rfl); (intro wo hT; (repeat (first | (intro _ _ k; try have hcv := cv k))); (have bo := O5.bs.below hT; have gc := (E5.below hT).cell); refine Goes.mk ?_; go_simp; first | exact goes_v | exact goes_b (by assumption) | (refine goes_enter ?_; first | (go_at_call 39; ((with_reducible refine (put16_any (some ⟨g, 0, none⟩) 20 c L5 2 z (by omega) z1 wo bo).mono ?_); rintro e w9 ⟨A9, c9, rfl, ho9, hB9⟩); exact ret_b ho9.bs hB9) | (go_at_call 39; ((with_reducible refine (put16_any _ 20 _ (put16 L5 2 z) 4 p.id o2 o2' wo (by assumption)).mono ?_); rintro e w9 ⟨A9, c9, rfl, ho9, hB9⟩); exact ret_b ho9.bs hB9)))) | (apply ObsK.b (by rfl); (intro wo hT; (repeat (first | (intro _ _ k; try have hcv := cv k))); (have bo := O5.bs.below hT; have gc := (E5.below hT).cell); refine Goes.mk ?_; go_simp; first | exact goes_v | exact goes_b (by assumption) | (refine goes_enter ?_; first | (go_at_call 39; ((with_reducible refine (put16_any (some ⟨g, 0, none⟩) 20 c L5 2 z (by omega) z1 wo bo).mono ?_); rintro e w9 ⟨A9, c9, rfl, ho9, hB9⟩); exact ret_b ho9.bs hB9) | (go_at_call 39; ((with_reducible refine (put16_any _ 20 _ (put16 L5 2 z) 4 p.id o2 o2' wo (by assumption)).mono ?_); rintro e w9 ⟨A9, c9, rfl, ho9, hB9⟩); exact ret_b ho9.bs hB9)))))); refine ObsK.nil ?_; intro wz hBz; simp only [finOn, List.drop_succ_cons, List.drop_zero, List.drop_nil]
    intro A7 c7 k7 A6 c6 k6
    go_simp
    have T6 := below_then T5 hBz
    have E6 := B0.below T6
    clear hBz
    go_wp2_with fail
    refine region_txt 7 (by kernel_rfl) (by kernel_rfl) ?_; (iterate 7 (first | (apply ObsK.skip (by rfl)) | (apply ObsK.v (by rfl); (intro wo hT; (repeat (first | (intro v hv; ((obtain ⟨A8, c8, rfl, ho8⟩ := hv; have k8 := ho8.bs))) | (intro _ _ k; try have hcv := cv k))); (have k7' := k7.below hT; have gc := (E6.below hT).cell; have hsz : g ≤ wo.heap.size := (by rw [← hg1]; exact (below_then T6 hT).size)); refine Goes.mk ?_; go_simp; first | exact goes_v | exact goes_b (by assumption) | (refine goes_enter ?_; first | (go_at_call 37; ((with_reducible refine (put32_any A7 20 c7 _ 12 p.src o5 o5' wo k7').mono ?_); rintro e w9 ⟨A9, c9, rfl, ho9, hB9⟩); exact ret_p (own_isO ho9 hsz) hB9) | (go_at_call 37; ((with_reducible refine (put32_any _ 20 _ _ 16 p.dst o6 o6' wo (by assumption)).mono ?_); rintro e w9 ⟨A9, c9, rfl, ho9, hB9⟩); exact ret_p (own_isO ho9 hsz) hB9)))) | (apply ObsK.b (by rfl); (intro wo hT; (repeat (first | (intro v hv; ((obtain ⟨A8, c8, rfl, ho8⟩ := hv; have k8 := ho8.bs))) | (intro _ _ k; try have hcv := cv k))); (have k7' := k7.below hT; have gc := (E6.below hT).cell; have hsz : g ≤ wo.heap.size := (by rw [← hg1]; exact (below_then T6 hT).size)); refine Goes.mk ?_; go_simp; first | exact goes_v | exact goes_b (by assumption) | (refine goes_enter ?_; first | (go_at_call 37; ((with_reducible refine (put32_any A7 20 c7 _ 12 p.src o5 o5' wo k7').mono ?_); rintro e w9 ⟨A9, c9, rfl, ho9, hB9⟩); exact ret_p (own_isO ho9 hsz) hB9) | (go_at_call 37; ((with_reducible refine (put32_any _ 20 _ _ 16 p.dst o6 o6' wo (by assumption)).mono ?_); rintro e w9 ⟨A9, c9, rfl, ho9, hB9⟩); exact ret_p (own_isO ho9 hsz) hB9)))) | (apply ObsK.p (q := isO g _ _) (by rfl) st_isO; (intro wo hT; (repeat (first | (intro v hv; ((obtain ⟨A8, c8, rfl, ho8⟩ := hv; have k8 := ho8.bs))) | (intro _ _ k; try have hcv := cv k))); (have k7' := k7.below hT; have gc := (E6.below hT).cell; have hsz : g ≤ wo.heap.size := (by rw [← hg1]; exact (below_then T6 hT).size)); refine Goes.mk ?_; go_simp; first | exact goes_v | exact goes_b (by assumption) | (refine goes_enter ?_; first | (go_at_call 37; ((with_reducible refine (put32_any A7 20 c7 _ 12 p.src o5 o5' wo k7').mono ?_); rintro e w9 ⟨A9, c9, rfl, ho9, hB9⟩); exact ret_p (own_isO ho9 hsz) hB9) | (go_at_call 37; ((with_reducible refine (put32_any _ 20 _ _ 16 p.dst o6 o6' wo (by assumption)).mono ?_); rintro e w9 ⟨A9, c9, rfl, ho9, hB9⟩); exact ret_p (own_isO ho9 hsz) hB9)))))); refine ObsK.nil ?_; intro wz hBz; simp only [finOn, List.drop_succ_cons, List.drop_zero, List.drop_nil]
    intro v9 hv9 v8 hv8
    obtain ⟨A9, c9, rfl, O9⟩ := hv9
    rw [← hg1] at O9
    obtain ⟨A8, c8, rfl, O8⟩ := hv8
    go_simp
    have T9 := below_then T6 hBz
    have E9 := (B0.below T9).cell
    clear E5 E6 T5 T6 hBz k6 k7 O5
    have s9 := T9.size
    go_wp2_with (first
      | (at_builtin; refine wpList_append_bs (w0 := w1) _ rfl _ _ _ rfl w1.heap.size 5 Try.underlying24 info_u8 A9 20 c9 _ rfl O9 A1 n1 c1 p.opt rfl (x1.below T9) T9 (by omega) (by first | exact Nat.le_refl _ | exact Below.size T9 | omega | (simp <;> omega)) ?_; intro A10 n10 c10 w10 ho10 hB10 _ hz10; have u10 : n10 ≤ 60 := (by rw [← ho10.len, List.length_append, O9.len, x1.len]; omega); have E10 := (B0.below hB10).cell)
      | (go_at_call 40; ((with_reducible refine (sum_any A10 n10 c10 _ _ ho10.bs).mono ?_); rintro e w11 ⟨rfl, hB11⟩); have T11 := below_then hB10 hB11)
      | (go_at_call 39; ((with_reducible refine (put16_any A10 n10 c10 _ 10 _ (csum_lo _) (csum_hi _) w11 (ho10.bs.below hB11)).mono ?_); rintro e w12 ⟨A12, c12, rfl, ho12, hB12⟩); have T12 := below_then T11 hB12; have s12 := T12.size; have E12 := (B0.below T12).cell)
      | (at_builtin; refine wpList_append_bs (w0 := w1) _ rfl _ _ _ rfl w1.heap.size 5 Try.underlying24 info_u8 A12 n10 c12 _ rfl (ho12.mono T11.size) A2 n2 c2 p.dat rfl (x2.below T12) T12 (by omega) (by first | exact Nat.le_refl _ | exact Below.size T12 | omega | (simp <;> omega)) ?_; intro A13 n13 c13 w13 ho13 hB13 _ hz13))
    have hl : ldR p = L4 := by unfold ldR; rw [x1.len, hm, HY.out, HL4.out]
    have hh : hdR p = put32 (put32 (put16 (put16 L5 2 z) 4 p.id) 12 p.src) 16 p.dst ++ p.opt := by unfold hdR; rw [hkp, hl, x1.len, x2.len, hm, hz, if_pos rfl, HL5.out]
    refine bodyPost_ret (v := .tuple #[.slice A13 n13 c13, .int .i64 0]) (by simp [results, Try.results35, go_sem]) rfl ⟨A13, n13, c13, rfl, ?_, below_then R1 hB13⟩
    have hf := ho13.mono R1.size
    unfold bdR
    rw [hh]
    exact hf
end Go.Proofs.Ytogbncpchmnbdaa

/- Parts of the proofs of this seat, laid together: SegS SegE SegK Gen SegSk OsO OptR Spl Spl2 Scope Tcp1 GenIn Foreign Tcp2 Tcp3 Live3 OpenSeg MathS MathX. -/
import Derived.Sort.QuietTacIn
import Derived.ScopeJumps
import Derived.WalkMore
import Derived.BigRegionIn
import Derived.OwnWalkIn
import Derived.Test.YtjjhnjkmoogloaaK4
import Derived.Test.YtjjhnjkmoogloaaK3
import Derived.Test.YtjjhnjkmoogloaaK2
import Derived.Test.YtjjhnjkmoogloaaK1
/- Segments that are the same. -/
namespace Go.Proofs.Ytjjhnjkmoogloaa
open Go.RowKit
set_option linter.unusedVariables false
set_option linter.unusedSimpArgs false
set_option linter.unusedSimpArgs false
set_option maxHeartbeats 4000000
set_option maxRecDepth 100000

theorem rtsame_any (a b : Seg) (OA : Option Addr) (on oc : Nat) (DA : Option Addr) (dn dc : Nat) (OB : Option Addr) (bn bc : Nat) (EB : Option Addr) (en ec : Nat) (w : World) (K1 : Os w OA on oc a.opts) (k1 : Bs w DA dn dc a.dat) (K2 : Os w OB bn bc b.opts) (k2 : Bs w EB en ec b.dat) :
    Calls Try.prog 17 #[(.agg #[.int .u16 (a).src, .int .u16 (a).dst, .int .u32 (a).seq, .int .u32 (a).ack, .int .u8 (a).flags, .int .u16 (a).win, .int .u16 (a).urg, .slice OA on oc, .slice DA dn dc]), (.agg #[.int .u16 (b).src, .int .u16 (b).dst, .int .u32 (b).seq, .int .u32 (b).ack, .int .u8 (b).flags, .int .u16 (b).win, .int .u16 (b).urg, .slice OB bn bc, .slice EB en ec])] w fun e w' => e = .returned (.bool (sameS a b)) ∧ Below w.heap.size w w' := by
  have l1 := K1.len
  have l2 := K2.len
  have mx := K1.max
  have str := str_beqS a.dat b.dat
  have HL1 := Lib.hid l1
  have HL2 := Lib.hid l2
  have hln : ¬ ((on : Int) = bn) → eqOs a.opts b.opts = false := fun h => eqOs_len (by rw [l1, l2]; omega)
  clear l1 l2
  obtain ⟨k, hk⟩ : ∃ k : Nat, w.heap.size = k := ⟨_, rfl⟩
  obtain ⟨w1, hw1⟩ : ∃ W, ((w.alloc (.cells #[.int .u16 (a).src, .int .u16 (a).dst, .int .u32 (a).seq, .int .u32 (a).ack, .int .u8 (a).flags, .int .u16 (a).win, .int .u16 (a).urg, .slice OA on oc, .slice DA dn dc] 29)).alloc (.cells #[.int .u16 (b).src, .int .u16 (b).dst, .int .u32 (b).seq, .int .u32 (b).ack, .int .u8 (b).flags, .int .u16 (b).win, .int .u16 (b).urg, .slice OB bn bc, .slice EB en ec] 29)) = W := ⟨_, rfl⟩
  have A1 : Blk w1 k #[.int .u16 (a).src, .int .u16 (a).dst, .int .u32 (a).seq, .int .u32 (a).ack, .int .u8 (a).flags, .int .u16 (a).win, .int .u16 (a).urg, .slice OA on oc, .slice DA dn dc] 29 := by rw [← hw1]; exact ((blk_new _ _ _ k (by simp [hk])).alloc _)
  have B1 : Blk w1 (k + 1) #[.int .u16 (b).src, .int .u16 (b).dst, .int .u32 (b).seq, .int .u32 (b).ack, .int .u8 (b).flags, .int .u16 (b).win, .int .u16 (b).urg, .slice OB bn bc, .slice EB en ec] 29 := by rw [← hw1]; exact (blk_new _ _ _ (k + 1) (by simp [hk]))
  have R1 : Below w.heap.size w w1 := by rw [← hw1]; (repeat (first | with_reducible exact Below.refl _ _ | with_reducible refine below_drew ?_ | with_reducible refine below_drewN ?_ _ | with_reducible refine below_alloc ?_ (Nat.le_refl _) _ | with_reducible refine Below.setCell ?_ (by first | exact Nat.le_refl _ | (simp only []; omega)) _ | with_reducible assumption))
  have Ac1 := A1.cell
  have Bc1 := B1.cell
  have Al1 := A1.lt
  have Bl1 := B1.lt
  have x1 := (k1).below R1
  have y1 := (k2).below R1
  have cx := cv x1
  have cy := cv y1
  go_enter Try.func17, Try.ntmps17
  go_wp2_with fail
  all_goals first | (focus (go_ret; refine ⟨?_, R1⟩; simp_all [sameS]; done)) | skip
  rename_i h1 h2 h3 h4 h5 h6 h7 h8 h9 _ _
  have HS : Hid (sameS a b = eqOs a.opts b.opts) := by
    unfold Hid
    have h9' : (a.dat == b.dat) = true := by simpa using h9
    have h10 : a.dat = b.dat := by simpa using h9'
    simp [sameS, h1, h2, h3, h4, h5, h6, h7, h10]
  have hbn : on = bn := by omega
  subst hbn
  clear h1 h2 h3 h4 h5 h6 h7 h8 h9 hln str cx cy hw1 hk
  go_loopw [5] (fun i wr => ∃ j, j ≤ on ∧ i = .int .i64 (j : Nat) ∧ Below w1.heap.size w1 wr ∧ Hid (∀ i, i < j → a.opts.getD i zO = b.opts.getD i zO)) (fun i _ => on - (intOf i).toNat)
  case atStart => exact ⟨0, by omega, rfl, Below.refl _ _, fun i hi => by omega⟩
  case round =>
    obtain ⟨j, hj, rfl, Bj, Gj⟩ := hrel
    have W0 : Below w.heap.size w wr := R1.trans (Bj.mono R1.size)
    have Ar := A1.below Bj
    have Br := B1.below Bj
    have arc := Ar.cell
    have brc := Br.cell
    by_cases hlt : j < on
    · have hji : (j : Int) < on := by omega
      obtain ⟨q1, o1, rfl, hc1⟩ := K1.rd (by omega)
      obtain ⟨q2, o2, rfl, hc2⟩ := K2.rd (by omega)
      obtain ⟨cK0, X1, m1, g1, cD0, b10⟩ := hc1 j hlt
      obtain ⟨dK0, X2, m2, g2, dD0, b20⟩ := hc2 j hlt
      have cK := (W0.cell (World.block_lt_of_cell? w _ cK0)).trans cK0
      have cD := (W0.cell (World.block_lt_of_cell? w _ cD0)).trans cD0
      have dK := (W0.cell (World.block_lt_of_cell? w _ dK0)).trans dK0
      have dD := (W0.cell (World.block_lt_of_cell? w _ dD0)).trans dD0
      have b1 := b10.below W0
      have b2 := b20.below W0
      obtain ⟨u, hu⟩ : ∃ o, a.opts.getD j zO = o := ⟨_, rfl⟩
      obtain ⟨v, hv⟩ : ∃ o, b.opts.getD j zO = o := ⟨_, rfl⟩
      rw [hu] at cK b1
      rw [hv] at dK b2
      have HU := Lib.hid hu
      have HV := Lib.hid hv
      have str2 := str_beqS u.dat v.dat
      clear hc1 hc2 cK0 cD0 dK0 dD0 b10 b20 hu hv
      rcases Bool.eq_false_or_eq_true (u.kind == v.kind) with hk1 | hk1
      · have hk1' : (u.kind != v.kind) = false := by simp [bne, hk1]
        have hkk : Hid (u.kind = v.kind) := by simpa [Hid] using hk1
        clear hk1
        rcases Bool.eq_false_or_eq_true (u.dat == v.dat) with hdt | hdt
        · have huv : Hid (u = v) := by
            have h1 := hkk.out
            have h2 : u.dat = v.dat := by simpa using hdt
            cases u; cases v; simp only at h1 h2; subst h1 h2; rfl
          go_wp2_with fail
          refine region_txt 30 (by kernel_rfl) (by kernel_rfl) ?_; (iterate 30 (first | (apply ObsK.skip (by rfl)) | (apply ObsK.v (by rfl); (intro wo hT; (repeat (first | (intro _ _ k; try have hcv := cv k))); (have ac := (Ar.below hT).cell; have bc := (Br.below hT).cell; have c1 := (hT.cell (World.block_lt_of_cell? wr _ cK)).trans cK; have c2 := (hT.cell (World.block_lt_of_cell? wr _ cD)).trans cD; have c3 := (hT.cell (World.block_lt_of_cell? wr _ dK)).trans dK; have c4 := (hT.cell (World.block_lt_of_cell? wr _ dD)).trans dD; have e1 := cv (b1.below hT); have e2 := cv (b2.below hT)); refine Goes.mk ?_; go_simp; first | exact goes_v | exact goes_b (by assumption) | (refine goes_enter ?_; first | fail))) | (apply ObsK.b (by rfl); (intro wo hT; (repeat (first | (intro _ _ k; try have hcv := cv k))); (have ac := (Ar.below hT).cell; have bc := (Br.below hT).cell; have c1 := (hT.cell (World.block_lt_of_cell? wr _ cK)).trans cK; have c2 := (hT.cell (World.block_lt_of_cell? wr _ cD)).trans cD; have c3 := (hT.cell (World.block_lt_of_cell? wr _ dK)).trans dK; have c4 := (hT.cell (World.block_lt_of_cell? wr _ dD)).trans dD; have e1 := cv (b1.below hT); have e2 := cv (b2.below hT)); refine Goes.mk ?_; go_simp; first | exact goes_v | exact goes_b (by assumption) | (refine goes_enter ?_; first | fail))))); refine ObsK.nil ?_; intro wz hBz; simp only [finOn, List.drop_succ_cons, List.drop_zero, List.drop_nil]
          go_simp
          have Wz := W0.trans (hBz.mono W0.size)
          go_wp2_with fail
          exact ⟨⟨j + 1, by omega, by go_num, Bj.trans (hBz.mono Bj.size), fun i hi => by
            by_cases e : i = j
            · rw [e, HU.out, HV.out]; exact huv.out
            · exact Gj.out i (by omega)⟩, by simp [intOf]; omega⟩
        · have hee : Hid (eqOs a.opts b.opts = false) := eqOs_one (i := j) (by rw [HU.out, HV.out]; intro e; rw [e] at hdt; simp at hdt)
          go_wp2_with fail
          refine region_txt 30 (by kernel_rfl) (by kernel_rfl) ?_; (iterate 30 (first | (apply ObsK.skip (by rfl)) | (apply ObsK.v (by rfl); (intro wo hT; (repeat (first | (intro _ _ k; try have hcv := cv k))); (have ac := (Ar.below hT).cell; have bc := (Br.below hT).cell; have c1 := (hT.cell (World.block_lt_of_cell? wr _ cK)).trans cK; have c2 := (hT.cell (World.block_lt_of_cell? wr _ cD)).trans cD; have c3 := (hT.cell (World.block_lt_of_cell? wr _ dK)).trans dK; have c4 := (hT.cell (World.block_lt_of_cell? wr _ dD)).trans dD; have e1 := cv (b1.below hT); have e2 := cv (b2.below hT)); refine Goes.mk ?_; go_simp; first | exact goes_v | exact goes_b (by assumption) | (refine goes_enter ?_; first | fail))) | (apply ObsK.b (by rfl); (intro wo hT; (repeat (first | (intro _ _ k; try have hcv := cv k))); (have ac := (Ar.below hT).cell; have bc := (Br.below hT).cell; have c1 := (hT.cell (World.block_lt_of_cell? wr _ cK)).trans cK; have c2 := (hT.cell (World.block_lt_of_cell? wr _ cD)).trans cD; have c3 := (hT.cell (World.block_lt_of_cell? wr _ dK)).trans dK; have c4 := (hT.cell (World.block_lt_of_cell? wr _ dD)).trans dD; have e1 := cv (b1.below hT); have e2 := cv (b2.below hT)); refine Goes.mk ?_; go_simp; first | exact goes_v | exact goes_b (by assumption) | (refine goes_enter ?_; first | fail))))); refine ObsK.nil ?_; intro wz hBz; simp only [finOn, List.drop_succ_cons, List.drop_zero, List.drop_nil]
          go_simp
          have Wz := W0.trans (hBz.mono W0.size)
          go_wp2_with fail
          exact bodyPost_ret (v := .bool false) (by simp [results, Try.results17, go_sem]) rfl ⟨by rw [HS.out, hee.out], Wz⟩
      · have hk1' : (u.kind != v.kind) = true := by simp [bne, hk1]
        have hkk : Hid (eqOs a.opts b.opts = false) := eqOs_one (i := j) (by rw [HU.out, HV.out]; intro e; rw [e] at hk1; simp at hk1)
        clear hk1
        go_wp2_with fail
        refine region_txt 30 (by kernel_rfl) (by kernel_rfl) ?_; (iterate 30 (first | (apply ObsK.skip (by rfl)) | (apply ObsK.v (by rfl); (intro wo hT; (repeat (first | (intro _ _ k; try have hcv := cv k))); (have ac := (Ar.below hT).cell; have bc := (Br.below hT).cell; have c1 := (hT.cell (World.block_lt_of_cell? wr _ cK)).trans cK; have c2 := (hT.cell (World.block_lt_of_cell? wr _ cD)).trans cD; have c3 := (hT.cell (World.block_lt_of_cell? wr _ dK)).trans dK; have c4 := (hT.cell (World.block_lt_of_cell? wr _ dD)).trans dD; have e1 := cv (b1.below hT); have e2 := cv (b2.below hT)); refine Goes.mk ?_; go_simp; first | exact goes_v | exact goes_b (by assumption) | (refine goes_enter ?_; first | fail))) | (apply ObsK.b (by rfl); (intro wo hT; (repeat (first | (intro _ _ k; try have hcv := cv k))); (have ac := (Ar.below hT).cell; have bc := (Br.below hT).cell; have c1 := (hT.cell (World.block_lt_of_cell? wr _ cK)).trans cK; have c2 := (hT.cell (World.block_lt_of_cell? wr _ cD)).trans cD; have c3 := (hT.cell (World.block_lt_of_cell? wr _ dK)).trans dK; have c4 := (hT.cell (World.block_lt_of_cell? wr _ dD)).trans dD; have e1 := cv (b1.below hT); have e2 := cv (b2.below hT)); refine Goes.mk ?_; go_simp; first | exact goes_v | exact goes_b (by assumption) | (refine goes_enter ?_; first | fail))))); refine ObsK.nil ?_; intro wz hBz; simp only [finOn, List.drop_succ_cons, List.drop_zero, List.drop_nil]
        go_simp
        have Wz := W0.trans (hBz.mono W0.size)
        go_wp2_with fail
        exact bodyPost_ret (v := .bool false) (by simp [results, Try.results17, go_sem]) rfl ⟨by rw [HS.out, hkk.out], Wz⟩
    · obtain rfl : j = on := by omega
      have hji : ¬ (j : Int) < j := by omega
      go_wp2_with fail
      have he : eqOs a.opts b.opts = true := eqOs_all (by rw [HL1.out, HL2.out]) (fun i hi => Gj.out i (by rw [← HL1.out]; exact hi))
      exact bodyPost_ret (v := .bool true) (by simp [results, Try.results17, go_sem]) rfl ⟨by rw [HS.out, he], W0⟩
end Go.Proofs.Ytjjhnjkmoogloaa

/- Options that are the same, by the library's function and the program's own test. -/
namespace Go.Proofs.Ytjjhnjkmoogloaa
open Go.RowKit
set_option linter.unusedVariables false
set_option linter.unusedSimpArgs false
set_option maxHeartbeats 4000000
set_option maxRecDepth 100000

theorem same1_any (u v : Opt) (A1 : Option Addr) (n1 c1 : Nat) (A2 : Option Addr) (n2 c2 : Nat) (w : World) (k1 : Bs w A1 n1 c1 u.dat) (k2 : Bs w A2 n2 c2 v.dat) :
    Calls Try.prog 62 #[(.agg #[.int .u8 (u).kind, .slice A1 n1 c1]), (.agg #[.int .u8 (v).kind, .slice A2 n2 c2])] w fun e w' => e = .returned (.bool (eqO u v)) ∧ Below w.heap.size w w' := by
  go_enter Try.func62, Try.ntmps62
  go_wp2_with (go_at_call 63; ((with_reducible refine (bequalS_any A1 n1 c1 u.dat A2 n2 c2 v.dat _ ((k1.alloc _).alloc _) ((k2.alloc _).alloc _)).mono ?_); rintro e w1 ⟨rfl, rfl⟩))
  all_goals go_ret
  all_goals refine ⟨?_, by (repeat (first | with_reducible exact Below.refl _ _ | with_reducible refine below_drew ?_ | with_reducible refine below_drewN ?_ _ | with_reducible refine below_alloc ?_ (Nat.le_refl _) _ | with_reducible refine Below.setCell ?_ (by first | exact Nat.le_refl _ | (simp only []; omega)) _ | with_reducible assumption))⟩
  all_goals simp_all [eqO]
theorem eqfun_any (a b : List Opt) (OA : Option Addr) (on oc : Nat) (OB : Option Addr) (bn bc : Nat) (w : World) (K1 : Os w OA on oc a) (K2 : Os w OB bn bc b) :
    Calls Try.prog 64 #[.slice OA on oc, .slice OB bn bc, .func (.func 62) #[] #[]] w fun e w' => e = .returned (.bool (eqOs a b)) ∧ Below w.heap.size w w' := by
  have l1 := K1.len
  have l2 := K2.len
  have mx := K1.max
  by_cases hn : on = bn
  · subst hn
    have HL1 := Lib.hid l1
    have HL2 := Lib.hid l2
    clear l1 l2
    go_enter Try.func64, Try.ntmps64
    go_wp2_with fail
    go_loopw [17] (fun i wr => ∃ j, j ≤ on ∧ i = .int .i64 (j : Nat) ∧ Below w.heap.size w wr ∧ Hid (∀ i, i < j → a.getD i zO = b.getD i zO)) (fun i _ => on - (intOf i).toNat)
    case atStart => exact ⟨0, by omega, rfl, Below.refl _ _, fun i hi => by omega⟩
    case round =>
      obtain ⟨j, hj, rfl, W0, Gj⟩ := hrel
      by_cases hlt : j < on
      · have hji : (j : Int) < on := by omega
        obtain ⟨q1, o1, rfl, hc1⟩ := K1.rd (by omega)
        obtain ⟨q2, o2, rfl, hc2⟩ := K2.rd (by omega)
        obtain ⟨cK0, X1, m1, g1, cD0, b10⟩ := hc1 j hlt
        obtain ⟨dK0, X2, m2, g2, dD0, b20⟩ := hc2 j hlt
        have cK := (W0.cell (World.block_lt_of_cell? w _ cK0)).trans cK0
        have cD := (W0.cell (World.block_lt_of_cell? w _ cD0)).trans cD0
        obtain ⟨u, hu⟩ : ∃ o, a.getD j zO = o := ⟨_, rfl⟩
        obtain ⟨v, hv⟩ : ∃ o, b.getD j zO = o := ⟨_, rfl⟩
        have b1 := b10.below W0
        have b2 := b20.below W0
        rw [hu] at cK b1
        obtain ⟨w2, hw2⟩ : ∃ W, wr.alloc (.cells #[.int .u8 u.kind, .slice X1 m1 g1] 66) = W := ⟨_, rfl⟩
        have V2 : Below wr.heap.size wr w2 := by rw [← hw2]; (repeat (first | with_reducible exact Below.refl _ _ | with_reducible refine below_drew ?_ | with_reducible refine below_drewN ?_ _ | with_reducible refine below_alloc ?_ (Nat.le_refl _) _ | with_reducible refine Below.setCell ?_ (by first | exact Nat.le_refl _ | (simp only []; omega)) _ | with_reducible assumption))
        have Q2 : Blk w2 wr.heap.size #[.int .u8 u.kind, .slice X1 m1 g1] 66 := by rw [← hw2]; exact blk_new wr _ _ _ rfl
        have W2 := W0.trans (V2.mono W0.size)
        have dK := (W2.cell (World.block_lt_of_cell? w _ dK0)).trans dK0
        have dD := (W2.cell (World.block_lt_of_cell? w _ dD0)).trans dD0
        rw [hv] at dK b2
        obtain ⟨w3, hw3⟩ : ∃ W, w2.alloc (.cells #[.int .u8 v.kind, .slice X2 m2 g2] 66) = W := ⟨_, rfl⟩
        have V3 : Below w2.heap.size w2 w3 := by rw [← hw3]; (repeat (first | with_reducible exact Below.refl _ _ | with_reducible refine below_drew ?_ | with_reducible refine below_drewN ?_ _ | with_reducible refine below_alloc ?_ (Nat.le_refl _) _ | with_reducible refine Below.setCell ?_ (by first | exact Nat.le_refl _ | (simp only []; omega)) _ | with_reducible assumption))
        have Q3 : Blk w3 w2.heap.size #[.int .u8 v.kind, .slice X2 m2 g2] 66 := by rw [← hw3]; exact blk_new w2 _ _ _ rfl
        have W3 := W2.trans (V3.mono W2.size)
        have q2c := (Q2.below V3).cell
        have q3c := Q3.cell
        have HU := Lib.hid hu
        have HV := Lib.hid hv
        have hs := same1_any u v X1 m1 g1 X2 m2 g2 w3 ((b1.below V2).below V3) ((b2.below V2).below V3)
        clear hc1 hc2 cK0 cD0 dK0 dD0 b10 b20 hu hv b1 b2
        rcases Bool.eq_false_or_eq_true (eqO u v) with hq | hq
        · rw [hq] at hs
          have huv : Hid (u = v) := (eqO_iff u v).1 hq
          clear hq
          go_wp2_with (go_at_call 62; ((with_reducible refine (hs).mono ?_); rintro e w4 ⟨rfl, hB4⟩))
          exact ⟨⟨j + 1, by omega, by go_num, W3.trans (hB4.mono W3.size), fun i hi => by
            by_cases e : i = j
            · rw [e, HU.out, HV.out]; exact huv.out
            · exact Gj.out i (by omega)⟩, by simp [intOf]; omega⟩
        · rw [hq] at hs
          have hee : Hid (eqOs a b = false) := eqOs_one (i := j) (by rw [HU.out, HV.out]; intro e; rw [(eqO_iff u v).2 e] at hq; cases hq)
          clear hq
          go_wp2_with (go_at_call 62; ((with_reducible refine (hs).mono ?_); rintro e w4 ⟨rfl, hB4⟩))
          go_ret
          exact ⟨by rw [hee.out]; rfl, W3.trans (hB4.mono W3.size)⟩
      · obtain rfl : j = on := by omega
        go_wp2_with fail
        have he : eqOs a b = true := eqOs_all (by rw [HL1.out, HL2.out]) (fun i hi => Gj.out i (by rw [← HL1.out]; exact hi))
        go_ret
        exact ⟨by rw [he]; rfl, W0⟩
  · have he : eqOs a b = false := eqOs_len (by rw [l1, l2]; exact hn)
    have hn1 : ¬ ((on : Int) = bn) := by omega
    clear l1 l2
    go_enter Try.func64, Try.ntmps64
    go_wp2_with fail
    go_ret
    exact ⟨by rw [he]; rfl, Below.refl _ _⟩
theorem tsame_any (a b : Seg) (OA : Option Addr) (on oc : Nat) (DA : Option Addr) (dn dc : Nat) (OB : Option Addr) (bn bc : Nat) (EB : Option Addr) (en ec : Nat) (w : World) (K1 : Os w OA on oc a.opts) (k1 : Bs w DA dn dc a.dat) (K2 : Os w OB bn bc b.opts) (k2 : Bs w EB en ec b.dat) :
    Calls Try.prog 31 #[(.agg #[.int .u16 (a).src, .int .u16 (a).dst, .int .u32 (a).seq, .int .u32 (a).ack, .int .u8 (a).flags, .int .u16 (a).win, .int .u16 (a).urg, .slice OA on oc, .slice DA dn dc]), (.agg #[.int .u16 (b).src, .int .u16 (b).dst, .int .u32 (b).seq, .int .u32 (b).ack, .int .u8 (b).flags, .int .u16 (b).win, .int .u16 (b).urg, .slice OB bn bc, .slice EB en ec])] w fun e w' => e = .returned (.bool (sameS a b)) ∧ Below w.heap.size w w' := by
  have heq := fun W K1 K2 => eqfun_any a.opts b.opts OA on oc OB bn bc W K1 K2
  obtain ⟨k, hk⟩ : ∃ k : Nat, w.heap.size = k := ⟨_, rfl⟩
  obtain ⟨w1, hw1⟩ : ∃ W, ((w.alloc (.cells #[.int .u16 (a).src, .int .u16 (a).dst, .int .u32 (a).seq, .int .u32 (a).ack, .int .u8 (a).flags, .int .u16 (a).win, .int .u16 (a).urg, .slice OA on oc, .slice DA dn dc] 29)).alloc (.cells #[.int .u16 (b).src, .int .u16 (b).dst, .int .u32 (b).seq, .int .u32 (b).ack, .int .u8 (b).flags, .int .u16 (b).win, .int .u16 (b).urg, .slice OB bn bc, .slice EB en ec] 29)) = W := ⟨_, rfl⟩
  have A1 : Blk w1 k #[.int .u16 (a).src, .int .u16 (a).dst, .int .u32 (a).seq, .int .u32 (a).ack, .int .u8 (a).flags, .int .u16 (a).win, .int .u16 (a).urg, .slice OA on oc, .slice DA dn dc] 29 := by rw [← hw1]; exact ((blk_new _ _ _ k (by simp [hk])).alloc _)
  have B1 : Blk w1 (k + 1) #[.int .u16 (b).src, .int .u16 (b).dst, .int .u32 (b).seq, .int .u32 (b).ack, .int .u8 (b).flags, .int .u16 (b).win, .int .u16 (b).urg, .slice OB bn bc, .slice EB en ec] 29 := by rw [← hw1]; exact (blk_new _ _ _ (k + 1) (by simp [hk]))
  have R1 : Below w.heap.size w w1 := by rw [← hw1]; (repeat (first | with_reducible exact Below.refl _ _ | with_reducible refine below_drew ?_ | with_reducible refine below_drewN ?_ _ | with_reducible refine below_alloc ?_ (Nat.le_refl _) _ | with_reducible refine Below.setCell ?_ (by first | exact Nat.le_refl _ | (simp only []; omega)) _ | with_reducible assumption))
  have Ac1 := A1.cell
  have Bc1 := B1.cell
  have Al1 := A1.lt
  have Bl1 := B1.lt
  have x1 := (k1).below R1
  have y1 := (k2).below R1
  have K11 := K1.below R1
  have K21 := K2.below R1
  obtain ⟨q, hq⟩ : ∃ q, eqOs a.opts b.opts = q := ⟨_, rfl⟩
  rw [hq] at heq
  have HQ : Hid (sameS a b = (a.src == b.src && a.dst == b.dst && a.seq == b.seq && a.ack == b.ack && a.flags == b.flags && a.win == b.win && a.urg == b.urg && q && a.dat == b.dat)) := by unfold Hid sameS; rw [hq]
  clear hq
  go_enter Try.func31, Try.ntmps31
  go_wp2_with (first
    | (go_at_call 64; ((with_reducible refine (heq w1 K11 K21).mono ?_); rintro e w2 ⟨rfl, hB2⟩); have A2 := A1.below hB2; have B2 := B1.below hB2; have Ac2 := A2.cell; have Bc2 := B2.cell; have x2 := x1.below hB2; have y2 := y1.below hB2; have R2 := below_then R1 hB2)
    | (go_at_call 63; ((with_reducible refine (bequalS_any DA dn dc a.dat EB en ec b.dat _ x2 y2).mono ?_); rintro e w3 ⟨rfl, rfl⟩)))
  all_goals go_ret
  all_goals refine ⟨?_, R2⟩
  all_goals rw [HQ.out]
  all_goals simp_all
end Go.Proofs.Ytjjhnjkmoogloaa

/- Where the option stands that tells edges. -/
namespace Go.Proofs.Ytjjhnjkmoogloaa
open Go.RowKit
set_option linter.unusedVariables false
set_option linter.unusedSimpArgs false
set_option maxHeartbeats 4000000
set_option maxRecDepth 100000

def isSk (o : Opt) : Bool := o.kind == 5 && (decide (0 < o.dat.length) && (decide (o.dat.length ≤ 32) && o.dat.length % 8 == 0))
def skI (os : List Opt) : Int := match os.findIdx? isSk with
  | some j => j
  | none => -1
theorem skI_at {os : List Opt} {j : Nat} (h : j < os.length) (hs : isSk (os.getD j zO) = true) (hb : ∀ i, i < j → isSk (os.getD i zO) = false) : skI os = j := by
  have g : ∀ i (h : i < os.length), os.getD i zO = os[i] := fun i h => by simp [List.getD_eq_getElem?_getD, List.getElem?_eq_getElem h]
  have : os.findIdx? isSk = some j := by
    rw [List.findIdx?_eq_some_iff_getElem]
    refine ⟨h, by rw [← g j h]; exact hs, fun i hi => ?_⟩
    have := hb i hi
    rw [g i (by omega)] at this
    simp [this]
  unfold skI
  rw [this]
theorem skI_none {os : List Opt} (hb : ∀ i, i < os.length → isSk (os.getD i zO) = false) : skI os = -1 := by
  have : os.findIdx? isSk = none := by
    rw [List.findIdx?_eq_none_iff]
    intro x hx
    obtain ⟨i, hi, rfl⟩ := List.mem_iff_getElem.1 hx
    have := hb i hi
    simpa [List.getD_eq_getElem?_getD, List.getElem?_eq_getElem hi] using this
  unfold skI
  rw [this]
theorem sk1_any (u : Opt) (A1 : Option Addr) (n1 c1 : Nat) (w : World) (k1 : Bs w A1 n1 c1 u.dat) :
    Calls Try.prog 79 #[(.agg #[.int .u8 (u).kind, .slice A1 n1 c1])] w fun e w' => e = .returned (.bool (isSk u)) ∧ Below w.heap.size w w' := by
  have l1 := k1.len
  have m1 := k1.max
  have hr : ((n1 : Int)).tmod 8 = ((n1 % 8 : Nat) : Int) := by rw [Int.tmod_eq_emod_of_nonneg (by omega)]; omega
  obtain ⟨z, hz⟩ : ∃ z : Nat, n1 % 8 = z := ⟨_, rfl⟩
  rw [hz] at hr
  have HS : Hid (isSk u = (u.kind == 5 && (decide (0 < (n1 : Int)) && (decide ((n1 : Int) ≤ 32) && (z : Int) == 0)))) := by
    unfold Hid isSk
    rw [l1, hz]
    congr 2
    · simp
    · congr 1
      · simp; omega
      · rw [Bool.eq_iff_iff]; simp
  clear l1 hz
  go_enter Try.func79, Try.ntmps79
  go_wp2_with fail
  all_goals go_ret
  all_goals refine ⟨?_, by (repeat (first | with_reducible exact Below.refl _ _ | with_reducible refine below_drew ?_ | with_reducible refine below_drewN ?_ _ | with_reducible refine below_alloc ?_ (Nat.le_refl _) _ | with_reducible refine Below.setCell ?_ (by first | exact Nat.le_refl _ | (simp only []; omega)) _ | with_reducible assumption))⟩
  all_goals rw [HS.out]
  all_goals simp_all
  all_goals omega
theorem idxfun_any (a : List Opt) (OA : Option Addr) (on oc : Nat) (w : World) (K1 : Os w OA on oc a) :
    Calls Try.prog 78 #[.slice OA on oc, .func (.func 79) #[] #[]] w fun e w' => e = .returned (.int .i64 (skI a)) ∧ Below w.heap.size w w' := by
  have HL1 := Lib.hid K1.len
  have mx := K1.max
  go_enter Try.func78, Try.ntmps78
  go_wp2_with fail
  go_loopw [8] (fun i wr => ∃ j, j ≤ on ∧ i = .int .i64 (j : Nat) ∧ Below w.heap.size w wr ∧ Hid (∀ i, i < j → isSk (a.getD i zO) = false)) (fun i _ => on - (intOf i).toNat)
  case atStart => exact ⟨0, by omega, rfl, Below.refl _ _, fun i hi => by omega⟩
  case round =>
    obtain ⟨j, hj, rfl, W0, Gj⟩ := hrel
    by_cases hlt : j < on
    · have hji : (j : Int) < on := by omega
      obtain ⟨q1, o1, rfl, hc1⟩ := K1.rd (by omega)
      obtain ⟨cK0, X1, m1, g1, cD0, b10⟩ := hc1 j hlt
      have cK := (W0.cell (World.block_lt_of_cell? w _ cK0)).trans cK0
      have cD := (W0.cell (World.block_lt_of_cell? w _ cD0)).trans cD0
      obtain ⟨u, hu⟩ : ∃ o, a.getD j zO = o := ⟨_, rfl⟩
      have b1 := b10.below W0
      rw [hu] at cK b1
      have HU := Lib.hid hu
      have hs := sk1_any u X1 m1 g1 wr b1
      clear hc1 cK0 cD0 b10 hu b1
      rcases Bool.eq_false_or_eq_true (isSk u) with hq | hq
      · rw [hq] at hs
        have hee : Hid (skI a = j) := skI_at (by rw [HL1.out]; exact hlt) (by rw [HU.out]; exact hq) Gj.out
        clear hq
        go_wp2_with (go_at_call 79; ((with_reducible refine (hs).mono ?_); rintro e w4 ⟨rfl, hB4⟩))
        go_ret
        exact ⟨by rw [hee.out]; rfl, W0.trans (hB4.mono W0.size)⟩
      · rw [hq] at hs
        have huv : Hid (isSk u = false) := hq
        clear hq
        go_wp2_with (go_at_call 79; ((with_reducible refine (hs).mono ?_); rintro e w4 ⟨rfl, hB4⟩))
        exact ⟨⟨j + 1, by omega, by go_num, W0.trans (hB4.mono W0.size), fun i hi => by
          by_cases e : i = j
          · rw [e, HU.out]; exact huv.out
          · exact Gj.out i (by omega)⟩, by simp [intOf]; omega⟩
    · obtain rfl : j = on := by omega
      go_wp2_with fail
      have he : skI a = -1 := skI_none (fun i hi => Gj.out i (by rw [← HL1.out]; exact hi))
      go_ret
      exact ⟨by rw [he]; rfl, W0⟩
theorem ssack_any (a : Seg) (OA : Option Addr) (on oc : Nat) (D : Value) (w : World) (K1 : Os w OA on oc a.opts) :
    Calls Try.prog 57 #[.agg #[.int .u16 a.src, .int .u16 a.dst, .int .u32 a.seq, .int .u32 a.ack, .int .u8 a.flags, .int .u16 a.win, .int .u16 a.urg, .slice OA on oc, D]] w fun e w' => e = .returned (.int .i64 (skI a.opts)) ∧ Below w.heap.size w w' := by
  have hs := fun W K => idxfun_any a.opts OA on oc W K
  obtain ⟨q, hq⟩ : ∃ q, skI a.opts = q := ⟨_, rfl⟩
  rw [hq] at hs ⊢
  clear hq
  go_enter Try.func57, Try.ntmps57
  go_wp2_with (go_at_call 78; ((with_reducible refine (hs _ (K1.alloc _)).mono ?_); rintro e w2 ⟨rfl, hB2⟩))
  go_ret
  exact ⟨rfl, below_then ((Below.refl w.heap.size w).alloc (Nat.le_refl _) _) hB2⟩
theorem rsack_any (a : Seg) (OA : Option Addr) (on oc : Nat) (D : Value) (w : World) (K1 : Os w OA on oc a.opts) :
    Calls Try.prog 58 #[.agg #[.int .u16 a.src, .int .u16 a.dst, .int .u32 a.seq, .int .u32 a.ack, .int .u8 a.flags, .int .u16 a.win, .int .u16 a.urg, .slice OA on oc, D]] w fun e w' => e = .returned (.int .i64 (skI a.opts)) ∧ Below w.heap.size w w' := by
  have HL1 := Lib.hid K1.len
  have mx := K1.max
  obtain ⟨os, hos⟩ : ∃ os, a.opts = os := ⟨_, rfl⟩
  rw [hos] at K1 HL1 ⊢
  clear hos
  obtain ⟨k, hk⟩ : ∃ k : Nat, w.heap.size = k := ⟨_, rfl⟩
  obtain ⟨w1, hw1⟩ : ∃ W, (w.alloc (.cells #[.int .u16 a.src, .int .u16 a.dst, .int .u32 a.seq, .int .u32 a.ack, .int .u8 a.flags, .int .u16 a.win, .int .u16 a.urg, .slice OA on oc, D] 29)) = W := ⟨_, rfl⟩
  have A1 : Blk w1 k #[.int .u16 a.src, .int .u16 a.dst, .int .u32 a.seq, .int .u32 a.ack, .int .u8 a.flags, .int .u16 a.win, .int .u16 a.urg, .slice OA on oc, D] 29 := by rw [← hw1]; exact (blk_new _ _ _ k (by simp [hk]))
  have R1 : Below w.heap.size w w1 := by rw [← hw1]; (repeat (first | with_reducible exact Below.refl _ _ | with_reducible refine below_drew ?_ | with_reducible refine below_drewN ?_ _ | with_reducible refine below_alloc ?_ (Nat.le_refl _) _ | with_reducible refine Below.setCell ?_ (by first | exact Nat.le_refl _ | (simp only []; omega)) _ | with_reducible assumption))
  have Ac1 := A1.cell
  have Al1 := A1.lt
  go_enter Try.func58, Try.ntmps58
  go_wp2_with fail
  clear hk hw1
  go_loopw [3] (fun i wr => ∃ j, j ≤ on ∧ i = .int .i64 (j : Nat) ∧ wr = w1 ∧ Hid (∀ i, i < j → isSk (os.getD i zO) = false)) (fun i _ => on - (intOf i).toNat)
  case atStart => exact ⟨0, by omega, rfl, rfl, fun i hi => by omega⟩
  case round =>
    obtain ⟨j, hj, rfl, rfl, Gj⟩ := hrel
    by_cases hlt : j < on
    · have hji : (j : Int) < on := by omega
      obtain ⟨q1, o1, rfl, hc1⟩ := K1.rd (by omega)
      obtain ⟨cK0, X1, m1, g1, cD0, b10⟩ := hc1 j hlt
      have cK := (R1.cell (World.block_lt_of_cell? w _ cK0)).trans cK0
      have cD := (R1.cell (World.block_lt_of_cell? w _ cD0)).trans cD0
      obtain ⟨u, hu⟩ : ∃ o, os.getD j zO = o := ⟨_, rfl⟩
      rw [hu] at cK b10
      have HU := Lib.hid hu
      have l1 := b10.len
      have mm := b10.max
      have hr : ((m1 : Int)).tmod 8 = ((m1 % 8 : Nat) : Int) := by rw [Int.tmod_eq_emod_of_nonneg (by omega)]; omega
      obtain ⟨z, hz⟩ : ∃ z : Nat, m1 % 8 = z := ⟨_, rfl⟩
      rw [hz] at hr
      have HS : Hid (isSk u = (u.kind == 5 && (decide (0 < (m1 : Int)) && (decide ((m1 : Int) ≤ 32) && (z : Int) == 0)))) := by
        unfold Hid isSk
        rw [l1, hz]
        congr 2
        · simp
        · congr 1
          · simp; omega
          · rw [Bool.eq_iff_iff]; simp
      have hat : Hid (isSk u = true → skI os = j) := fun h => skI_at (by rw [HL1.out]; exact hlt) (by rw [HU.out]; exact h) Gj.out
      have hno : Hid (isSk u = false → ∀ i, i < j + 1 → isSk (os.getD i zO) = false) := fun h i hi => by
        by_cases e : i = j
        · rw [e, HU.out]; exact h
        · exact Gj.out i (by omega)
      clear hc1 cK0 cD0 b10 hu l1 hz
      obtain ⟨κ, hκ⟩ : ∃ κ, u.kind = κ := ⟨_, rfl⟩
      rw [hκ] at cK HS
      clear hκ
      rcases Bool.eq_false_or_eq_true (κ == 5 && (decide (0 < (m1 : Int)) && (decide ((m1 : Int) ≤ 32) && (z : Int) == 0))) with hq | hq
      · have hee : Hid (skI os = j) := hat.out (by rw [HS.out]; exact hq)
        clear hat hno HS
        simp only [Bool.and_eq_true, decide_eq_true_eq, beq_iff_eq] at hq
        obtain ⟨f1, f2, f3, f4⟩ := hq
        subst f1
        go_wp2_with fail
        go_ret
        exact ⟨by rw [hee.out]; rfl, R1⟩
      · have huv : Hid (∀ i, i < j + 1 → isSk (os.getD i zO) = false) := hno.out (by rw [HS.out]; exact hq)
        clear hat hno HS
        go_wp2_with fail
        · exfalso; simp_all
        · exact ⟨⟨j + 1, by omega, by go_num, trivial, huv.out⟩, by simp [intOf]; omega⟩
        all_goals exact ⟨⟨j + 1, by omega, by go_num, trivial, huv.out⟩, by simp [intOf]; omega⟩
    · obtain rfl : j = on := by omega
      go_wp2_with fail
      have he : skI os = -1 := skI_none (fun i hi => Gj.out i (by rw [← HL1.out]; exact hi))
      go_ret
      exact ⟨by rw [he]; rfl, R1⟩
end Go.Proofs.Ytjjhnjkmoogloaa

/- Rows of the call's own whose elements are no bytes: numbers of 32 bits, options. -/
namespace Go.Proofs.Ytjjhnjkmoogloaa
open Go.RowKit
set_option linter.unusedVariables false
set_option linter.unusedSimpArgs false
set_option maxHeartbeats 1000000

/-- A row of the call's own, from block base on, of elements of these cells. -/
structure OwnG (w : World) (base : Nat) (e : TypeId) (size : Nat) (A : Option Addr) (n c : Nat) (xs : List Value) : Prop where
  row : w.ownsRow base e size (.slice A n c) n xs
section
variable {w w' : World} {base : Nat} {e : TypeId} {size : Nat} {A : Option Addr} {n c : Nat} {xs : List Value}
theorem OwnG.len (h : OwnG w base e size A n c xs) : xs.length = n * size := h.row.1
theorem OwnG.kept {row : Option Nat} (h : OwnG w base e size A n c xs) (hg : w.grownBy w' row) (hne : (Value.slice A n c).ownBlock = none ∨ (Value.slice A n c).ownBlock ≠ row) : OwnG w' base e size A n c xs := ⟨h.row.kept hg hne⟩
theorem OwnG.alloc (h : OwnG w base e size A n c xs) (o : Obj) : OwnG (w.alloc o) base e size A n c xs := ⟨h.row.alloc o⟩
theorem ownG_nil (w : World) (base : Nat) (e : TypeId) (size : Nat) : OwnG w base e size none 0 0 [] := ⟨World.ownsRow_nil w base e size⟩
theorem OwnG.below (h : OwnG w base e size A n c xs) (hb : Below w.heap.size w w') : OwnG w' base e size A n c xs :=
  h.kept (row := none) ⟨hb.os, hb.tape, hb.output, hb.size, fun i hi _ => hb.block i hi⟩ (by cases (Value.slice A n c).ownBlock <;> simp)
theorem OwnG.mono {b' : Nat} (h : OwnG w base e size A n c xs) (hb : b' ≤ base) : OwnG w b' e size A n c xs := by
  obtain ⟨h1, h2⟩ := h.row
  refine ⟨h1, ?_⟩
  rcases h2 with h2 | ⟨g, cap, cur, hv, hg, r⟩
  · exact .inl h2
  · exact .inr ⟨g, cap, cur, hv, by omega, r⟩
theorem OwnG.base_le (h : OwnG w base e size A n c xs) : ∀ k, (Value.slice A n c).ownBlock = some k → base ≤ k := fun k hk => (h.row.lt k hk).1
end
theorem new1 (w : World) (x : Value) (t : TypeId) : ∀ (q : Nat) u, [x][q]? = some u → (w.alloc (.cells #[x] t)).cell? ((⟨w.heap.size, 0, none⟩ : Addr).add q) = some u := by
  intro q u h
  have h1 := (blk_new w #[x] t _ rfl).cell.1 q
  have h2 : (⟨w.heap.size, 0, none⟩ : Addr).add q = ⟨w.heap.size, q, none⟩ := by cases q <;> simp [Addr.add]
  rw [h2, h1]
  simpa using h
section
variable {P : Program} {ops : Array Oper} {rest : List Oper} {o : Oper} {a : Act} {Q : Exit → Act → World → Prop}
theorem wpList_appG {w0 : World} (w : World) (hgd : o.guard = none) (s x : Operand) (t : TypeId) (ho : o.op = .call { callee := .builtin .append, args := #[s, x], argTypes := #[t, t] })
    (base : Nat) (e : TypeId) (i : TypeInfo) (z : Value) (size bytes : Nat) (ht : P.underlying t = some (.slice e)) (hi : P.info? e = some i) (hz : i.zero = some z) (hsize : i.size = size) (hby : i.bytes = bytes) (hzs : z.cells.size = size) (hsz : 0 < size) (hbs : bytes ≤ 64)
    (A : Option Addr) (n c : Nat) (xs : List Value) (hs : a.eval s = .slice A n c) (hown : OwnG w base e size A n c xs) (ad : Addr) (m c2 : Nat) (news : List Value) (hx : a.eval x = .slice (some ad) m c2) (hl : news.length = m * size)
    (hnews : ∀ j u, news[j]? = some u → w.cell? (ad.add j) = some u) (h1 : ∀ u ∈ news, u.oneCell' = true)
    (HB : Below base w0 w) (hmax : n + m ≤ 3000000000000) (hbase : base ≤ w.heap.size)
    (h : ∀ A' c' w', OwnG w' base e size A' (n + m) c' (xs ++ news) → Below base w0 w' → w.grownBy w' (Value.slice A n c).ownBlock → base ≤ w'.heap.size → wpList P ops Q rest (a.put o.dst (.slice A' (n + m) c')) w') : wpList P ops Q (o :: rest) a w := by
  refine wpList_plain hgd fun K hK => ?_
  obtain ⟨v', w', hrun, hrow, hg, _⟩ := run_append_own_wide (P := P) w base t o.type e i z size bytes ht hi hz hsize hby hzs hsz (.slice A n c) n xs hown.row ad m c2 news hl hnews h1 (by simp only [maxLen]; omega) (by
      have : ((n + m) + (n + m) / 4 + 192) * bytes ≤ ((n + m) + (n + m) / 4 + 192) * 64 := Nat.mul_le_mul_left _ hbs
      omega) hbase
  have hv : ∃ A' c', v' = .slice A' (n + m) c' := by
    rcases hrow.2 with ⟨hv, h0⟩ | ⟨g, cap, cur, hv, _⟩
    · exact ⟨none, 0, by rw [hv, h0]⟩
    · exact ⟨_, cap, hv⟩
  obtain ⟨A', c', rfl⟩ := hv
  unfold Oper.wp execOp
  simp only [ho, resolve, invoke, builtin, Sem.run_bind, Sem.run_pure, Result.andThen_ok, List.map_toArray, List.map_cons, List.map_nil, hs, hx, hrun]
  exact hK _ _ (h A' c' w' ⟨hrow⟩ (HB.grown hg hbase hown.base_le) hg (Nat.le_trans hbase hg.size))
end
end Go.Proofs.Ytjjhnjkmoogloaa

/- The edges that a segment tells. -/
namespace Go.Proofs.Ytjjhnjkmoogloaa
open Go.RowKit
set_option linter.unusedVariables false
set_option linter.unusedSimpArgs false
set_option maxHeartbeats 4000000
set_option maxRecDepth 100000

def edg (l : List UInt8) (k : Nat) : List Int := (List.range k).map fun i => get32 l ((4 * i : Nat) : Int)
def sks (s : Seg) : List Int := if skI s.opts < 0 then [] else edg (s.opts.getD (skI s.opts).toNat zO).dat ((s.opts.getD (skI s.opts).toNat zO).dat.length / 4)
def u32L (l : List Int) : List Value := l.map (Value.int .u32)
theorem edg_succ (l : List UInt8) (k : Nat) : u32L (edg l (k + 1)) = u32L (edg l k) ++ [.int .u32 (get32 l ((4 * k : Nat) : Int))] := by
  unfold edg u32L
  rw [List.range_succ, List.map_append, List.map_append]
  rfl
theorem skI_cases (os : List Opt) : skI os = -1 ∨ ∃ j, j < os.length ∧ skI os = (j : Nat) ∧ isSk (os.getD j zO) = true := by
  unfold skI
  cases h : os.findIdx? isSk with
  | none => left; rfl
  | some j =>
    right
    obtain ⟨h1, h2, _⟩ := List.findIdx?_eq_some_iff_getElem.1 h
    exact ⟨j, h1, rfl, by simpa [List.getD_eq_getElem?_getD, List.getElem?_eq_getElem h1] using h2⟩
structure SkPost (w : World) (l : List Int) (e : Ending) (w' : World) : Prop where
  out : ∃ A n c, e = .returned (.slice A n c) ∧ OwnG w' w.heap.size 23 1 A n c (u32L l) ∧ Below w.heap.size w w'
theorem info_u32 : (Try.prog.info? 23).map (fun i => (i.zero, i.size, i.bytes)) = some (some (.int .u32 0), 1, 4) := by kernel_rfl
theorem sacks_any (s : Seg) (OA : Option Addr) (on oc : Nat) (DA : Option Addr) (dn dc : Nat) (w : World) (K1 : Os w OA on oc s.opts) :
    Calls Try.prog 23 #[(.agg #[.int .u16 (s).src, .int .u16 (s).dst, .int .u32 (s).seq, .int .u32 (s).ack, .int .u8 (s).flags, .int .u16 (s).win, .int .u16 (s).urg, .slice OA on oc, .slice DA dn dc])] w (SkPost w (sks s)) := by
  have HL1 := Lib.hid K1.len
  have mx := K1.max
  have hs := fun W K => ssack_any s OA on oc (.slice DA dn dc) W K
  obtain ⟨os, hos⟩ : ∃ os, s.opts = os := ⟨_, rfl⟩
  have HSK : Hid (sks s = if skI os < 0 then [] else edg (os.getD (skI os).toNat zO).dat ((os.getD (skI os).toNat zO).dat.length / 4)) := by unfold Hid sks; rw [hos]
  rw [hos] at K1 HL1 hs
  clear hos
  obtain ⟨k, hk⟩ : ∃ k : Nat, w.heap.size = k := ⟨_, rfl⟩
  obtain ⟨w1, hw1⟩ : ∃ W, (w.alloc (.cells #[.int .u16 (s).src, .int .u16 (s).dst, .int .u32 (s).seq, .int .u32 (s).ack, .int .u8 (s).flags, .int .u16 (s).win, .int .u16 (s).urg, .slice OA on oc, .slice DA dn dc] 29)) = W := ⟨_, rfl⟩
  have A1 : Blk w1 k #[.int .u16 (s).src, .int .u16 (s).dst, .int .u32 (s).seq, .int .u32 (s).ack, .int .u8 (s).flags, .int .u16 (s).win, .int .u16 (s).urg, .slice OA on oc, .slice DA dn dc] 29 := by rw [← hw1]; exact (blk_new _ _ _ k (by simp [hk]))
  have R1 : Below w.heap.size w w1 := by rw [← hw1]; (repeat (first | with_reducible exact Below.refl _ _ | with_reducible refine below_drew ?_ | with_reducible refine below_drewN ?_ _ | with_reducible refine below_alloc ?_ (Nat.le_refl _) _ | with_reducible refine Below.setCell ?_ (by first | exact Nat.le_refl _ | (simp only []; omega)) _ | with_reducible assumption))
  have Ac1 := A1.cell
  have Al1 := A1.lt
  have K11 := K1.below R1
  rcases skI_cases os with hk1 | ⟨j, hj, hk1, hsk⟩
  · have HE : Hid (sks s = []) := by rw [Hid, HSK.out, hk1]; rfl
    rw [hk1] at hs
    clear hk1
    go_enter Try.func23, Try.ntmps23
    go_wp2_with (go_at_call 57; ((with_reducible refine (hs w1 K11).mono ?_); rintro e w2 ⟨rfl, hB2⟩); have A2 := A1.below hB2; have Ac2 := A2.cell; clear Ac1; have R2 := below_then R1 hB2)
    go_ret
    exact ⟨none, 0, 0, rfl, by rw [HE.out]; exact ownG_nil _ _ _ _, R2⟩

  · have HJ := Lib.hid hk1
    have hjn : j < on := by rw [← HL1.out]; exact hj
    obtain ⟨q1, o1, rfl, hc1⟩ := K1.rd (by omega)
    obtain ⟨cK0, X1, m1, g1, cD0, b10⟩ := hc1 j hjn
    obtain ⟨u, hu⟩ : ∃ o, os.getD j zO = o := ⟨_, rfl⟩
    rw [hu] at b10 hsk
    obtain ⟨d, hd⟩ : ∃ d, u.dat = d := ⟨_, rfl⟩
    have l1 := b10.len
    have hm : m1 ≤ 32 ∧ m1 % 4 = 0 := by
      unfold isSk at hsk
      simp only [Bool.and_eq_true, decide_eq_true_eq, beq_iff_eq, l1] at hsk
      omega
    have HE : Hid (sks s = edg d (m1 / 4)) := by rw [Hid, HSK.out, hk1, if_neg (by omega), show ((j : Nat) : Int).toNat = j from rfl, hu, l1, hd]
    rw [hd] at b10 l1
    rw [hk1] at hs
    obtain ⟨hm1, hm4⟩ := hm
    have hji : (j : Int) < on := by omega
    have cD1 := (R1.cell (World.block_lt_of_cell? w _ cD0)).trans cD0
    have HM4 := Lib.hid hm4
    clear hk1 hsk hu hd cK0 l1 hj hc1 hm4
    go_enter Try.func23, Try.ntmps23
    go_wp2_with (go_at_call 57; ((with_reducible refine (hs w1 K11).mono ?_); rintro e w2 ⟨rfl, hB2⟩); have A2 := A1.below hB2; have Ac2 := A2.cell; clear Ac1; have R2 := below_then R1 hB2)
    have cD2 := (hB2.cell (World.block_lt_of_cell? w1 _ cD1)).trans cD1
    have b2 := b10.below R2
    clear hk hw1 hs cD0 cD1
    go_loopw [4, 5] (fun out i wr => ∃ (k t : Nat) (A' : Option Addr) (c' : Nat), t ≤ m1 ∧ Hid (t = 4 * k) ∧ k ≤ 8 ∧ i = .int .i64 (t : Int) ∧ out = .slice A' k c' ∧ OwnG wr w2.heap.size 23 1 A' k c' (u32L (edg d k)) ∧ Below w2.heap.size w2 wr) (fun _ i _ => m1 - (intOf i).toNat)
    case atStart => exact ⟨0, 0, none, 0, by omega, rfl, by omega, rfl, rfl, ownG_nil _ _ _ _, Below.refl _ _⟩
    case round =>
      obtain ⟨k, t, Ak, ck, ht, htk, hk8, rfl, rfl, Ok, Bk⟩ := hrel
      have Ar := A2.below Bk
      have arc := Ar.cell
      have cDr := (Bk.cell (World.block_lt_of_cell? w2 _ cD2)).trans cD2
      have br := b2.below Bk
      by_cases hlt : t < m1
      · have hti : (t : Int) < m1 := by omega
        obtain ⟨v, hv⟩ : ∃ v, get32 d (t : Int) = v := ⟨_, rfl⟩
        have g4 := get32_any X1 m1 g1 d (t : Int) wr br
        rw [hv] at g4
        have HV : Hid (u32L (edg d (k + 1)) = u32L (edg d k) ++ [.int .u32 v]) := by rw [Hid, edg_succ, ← htk.out, hv]
        clear hv
        obtain ⟨ii, hi, hz, hs', hb'⟩ := info_parts info_u32
        go_wp2_with (first
          | (go_at_call 39; ((with_reducible refine (g4).mono ?_); rintro e w3 ⟨rfl, hD3⟩); have hB3 := hD3.bel; have O3 := Ok.below hB3; have Bk3 := Bk.trans (hB3.mono Bk.size); have s3 := Bk3.size)
          | (at_builtin; refine wpList_appG (w0 := w2) _ rfl _ _ _ rfl w2.heap.size 23 ii (.int .u32 0) 1 4 Try.underlying45 hi hz hs' hb' rfl (by omega) (by omega) Ak k ck _ rfl (O3.alloc _) ⟨_, 0, none⟩ 1 1 [.int .u32 v] rfl rfl (new1 _ _ _) (by intro u h; simp at h; subst h; rfl) (Bk3.alloc s3 _) (by omega) (by simp; omega) ?_; intro A4 c4 w4 O4 hB4 _ hz4))
        exact ⟨⟨k + 1, t + 4, A4, c4, by have := htk.out; have := HM4.out; omega, by have := htk.out; unfold Hid; omega, by have := htk.out; omega, by go_num, rfl, by rw [HV.out]; exact O4, hB4⟩, by simp [intOf]; omega⟩
      · have hti : ¬ (t : Int) < m1 := by omega
        have hkm : Hid (m1 / 4 = k) := by have := htk.out; unfold Hid; omega
        go_wp2_with fail
        go_ret
        exact ⟨Ak, k, ck, rfl, by rw [HE.out, hkm.out]; exact Ok.mono R2.size, below_then R2 Bk⟩
theorem rsacks_any (s : Seg) (OA : Option Addr) (on oc : Nat) (DA : Option Addr) (dn dc : Nat) (w : World) (K1 : Os w OA on oc s.opts) :
    Calls Try.prog 24 #[(.agg #[.int .u16 (s).src, .int .u16 (s).dst, .int .u32 (s).seq, .int .u32 (s).ack, .int .u8 (s).flags, .int .u16 (s).win, .int .u16 (s).urg, .slice OA on oc, .slice DA dn dc])] w (SkPost w (sks s)) := by
  have HL1 := Lib.hid K1.len
  have mx := K1.max
  have hs := fun W K => rsack_any s OA on oc (.slice DA dn dc) W K
  obtain ⟨os, hos⟩ : ∃ os, s.opts = os := ⟨_, rfl⟩
  have HSK : Hid (sks s = if skI os < 0 then [] else edg (os.getD (skI os).toNat zO).dat ((os.getD (skI os).toNat zO).dat.length / 4)) := by unfold Hid sks; rw [hos]
  rw [hos] at K1 HL1 hs
  clear hos
  obtain ⟨k, hk⟩ : ∃ k : Nat, w.heap.size = k := ⟨_, rfl⟩
  obtain ⟨w1, hw1⟩ : ∃ W, (w.alloc (.cells #[.int .u16 (s).src, .int .u16 (s).dst, .int .u32 (s).seq, .int .u32 (s).ack, .int .u8 (s).flags, .int .u16 (s).win, .int .u16 (s).urg, .slice OA on oc, .slice DA dn dc] 29)) = W := ⟨_, rfl⟩
  have A1 : Blk w1 k #[.int .u16 (s).src, .int .u16 (s).dst, .int .u32 (s).seq, .int .u32 (s).ack, .int .u8 (s).flags, .int .u16 (s).win, .int .u16 (s).urg, .slice OA on oc, .slice DA dn dc] 29 := by rw [← hw1]; exact (blk_new _ _ _ k (by simp [hk]))
  have R1 : Below w.heap.size w w1 := by rw [← hw1]; (repeat (first | with_reducible exact Below.refl _ _ | with_reducible refine below_drew ?_ | with_reducible refine below_drewN ?_ _ | with_reducible refine below_alloc ?_ (Nat.le_refl _) _ | with_reducible refine Below.setCell ?_ (by first | exact Nat.le_refl _ | (simp only []; omega)) _ | with_reducible assumption))
  have Ac1 := A1.cell
  have Al1 := A1.lt
  have K11 := K1.below R1
  rcases skI_cases os with hk1 | ⟨j, hj, hk1, hsk⟩
  · have HE : Hid (sks s = []) := by rw [Hid, HSK.out, hk1]; rfl
    rw [hk1] at hs
    clear hk1
    go_enter Try.func24, Try.ntmps24
    go_wp2_with (go_at_call 58; ((with_reducible refine (hs w1 K11).mono ?_); rintro e w2 ⟨rfl, hB2⟩); have A2 := A1.below hB2; have Ac2 := A2.cell; clear Ac1; have R2 := below_then R1 hB2)
    go_ret
    exact ⟨none, 0, 0, rfl, by rw [HE.out]; exact ownG_nil _ _ _ _, R2⟩

  · have HJ := Lib.hid hk1
    have hjn : j < on := by rw [← HL1.out]; exact hj
    obtain ⟨q1, o1, rfl, hc1⟩ := K1.rd (by omega)
    obtain ⟨cK0, X1, m1, g1, cD0, b10⟩ := hc1 j hjn
    obtain ⟨u, hu⟩ : ∃ o, os.getD j zO = o := ⟨_, rfl⟩
    rw [hu] at b10 hsk
    obtain ⟨d, hd⟩ : ∃ d, u.dat = d := ⟨_, rfl⟩
    have l1 := b10.len
    have hm : m1 ≤ 32 ∧ m1 % 4 = 0 := by
      unfold isSk at hsk
      simp only [Bool.and_eq_true, decide_eq_true_eq, beq_iff_eq, l1] at hsk
      omega
    have HE : Hid (sks s = edg d (m1 / 4)) := by rw [Hid, HSK.out, hk1, if_neg (by omega), show ((j : Nat) : Int).toNat = j from rfl, hu, l1, hd]
    rw [hd] at b10 l1
    rw [hk1] at hs
    obtain ⟨hm1, hm4⟩ := hm
    have hji : (j : Int) < on := by omega
    have cD1 := (R1.cell (World.block_lt_of_cell? w _ cD0)).trans cD0
    have HM4 := Lib.hid hm4
    clear hk1 hsk hu hd cK0 l1 hj hc1 hm4
    go_enter Try.func24, Try.ntmps24
    go_wp2_with (go_at_call 58; ((with_reducible refine (hs w1 K11).mono ?_); rintro e w2 ⟨rfl, hB2⟩); have A2 := A1.below hB2; have Ac2 := A2.cell; clear Ac1; have R2 := below_then R1 hB2)
    have cD2 := (hB2.cell (World.block_lt_of_cell? w1 _ cD1)).trans cD1
    have b2 := b10.below R2
    clear hk hw1 hs cD0 cD1
    go_loopw [3, 5] (fun out i wr => ∃ (k t : Nat) (A' : Option Addr) (c' : Nat), t ≤ m1 ∧ Hid (t = 4 * k) ∧ k ≤ 8 ∧ i = .int .i64 (t : Int) ∧ out = .slice A' k c' ∧ OwnG wr w2.heap.size 23 1 A' k c' (u32L (edg d k)) ∧ Below w2.heap.size w2 wr) (fun _ i _ => m1 - (intOf i).toNat)
    case atStart => exact ⟨0, 0, none, 0, by omega, rfl, by omega, rfl, rfl, ownG_nil _ _ _ _, Below.refl _ _⟩
    case round =>
      obtain ⟨k, t, Ak, ck, ht, htk, hk8, rfl, rfl, Ok, Bk⟩ := hrel
      have Ar := A2.below Bk
      have arc := Ar.cell
      have cDr := (Bk.cell (World.block_lt_of_cell? w2 _ cD2)).trans cD2
      have br := b2.below Bk
      by_cases hlt : t < m1
      · have hti : (t : Int) < m1 := by omega
        obtain ⟨v, hv⟩ : ∃ v, get32 d (t : Int) = v := ⟨_, rfl⟩
        have g4 := rget32_any X1 m1 g1 d (t : Int) wr br
        rw [hv] at g4
        have HV : Hid (u32L (edg d (k + 1)) = u32L (edg d k) ++ [.int .u32 v]) := by rw [Hid, edg_succ, ← htk.out, hv]
        clear hv
        obtain ⟨ii, hi, hz, hs', hb'⟩ := info_parts info_u32
        go_wp2_with (first
          | (go_at_call 44; ((with_reducible refine (g4).mono ?_); rintro e w3 ⟨rfl, hD3⟩); have hB3 := hD3.bel; have O3 := Ok.below hB3; have Bk3 := Bk.trans (hB3.mono Bk.size); have s3 := Bk3.size)
          | (at_builtin; refine wpList_appG (w0 := w2) _ rfl _ _ _ rfl w2.heap.size 23 ii (.int .u32 0) 1 4 Try.underlying45 hi hz hs' hb' rfl (by omega) (by omega) Ak k ck _ rfl (O3.alloc _) ⟨_, 0, none⟩ 1 1 [.int .u32 v] rfl rfl (new1 _ _ _) (by intro u h; simp at h; subst h; rfl) (Bk3.alloc s3 _) (by omega) (by simp; omega) ?_; intro A4 c4 w4 O4 hB4 _ hz4))
        exact ⟨⟨k + 1, t + 4, A4, c4, by have := htk.out; have := HM4.out; omega, by have := htk.out; unfold Hid; omega, by have := htk.out; omega, by go_num, rfl, by rw [HV.out]; exact O4, hB4⟩, by simp [intOf]; omega⟩
      · have hti : ¬ (t : Int) < m1 := by omega
        have hkm : Hid (m1 / 4 = k) := by have := htk.out; unfold Hid; omega
        go_wp2_with fail
        go_ret
        exact ⟨Ak, k, ck, rfl, by rw [HE.out, hkm.out]; exact Ok.mono R2.size, below_then R2 Bk⟩
end Go.Proofs.Ytjjhnjkmoogloaa

/- A slice of options of the call's own, with data of the call's own. -/
namespace Go.Proofs.Ytjjhnjkmoogloaa
open Go.RowKit
set_option linter.unusedVariables false
set_option linter.unusedSimpArgs false
set_option maxHeartbeats 1000000

theorem OwnG.ne_own {w : World} {b1 b2 : Nat} {e1 e2 : TypeId} {s : Nat} {A B : Option Addr} {n c m d : Nat} {xs : List Value} {l : List UInt8} (h : OwnG w b1 e1 s A n c xs) (k : Own w b2 e2 B m d l) (hne : e1 ≠ e2) :
    (Value.slice B m d).ownBlock = none ∨ (Value.slice B m d).ownBlock ≠ (Value.slice A n c).ownBlock := by
  rcases h.row.2 with ⟨hv, _⟩ | ⟨g, cap, cur, hv, _, hg, _⟩
  · injection hv with h1 h2 h3
    subst h1
    cases B with
    | none => left; simp [Value.ownBlock]
    | some b => right; simp [Value.ownBlock]
  · injection hv with h1 h2 h3
    subst h1
    rcases k.row.2 with ⟨hv2, _⟩ | ⟨g2, cap2, cur2, hv2, _, hg2, _⟩
    · injection hv2 with h1 h2 h3
      subst h1
      left; simp [Value.ownBlock]
    · injection hv2 with h1 h2 h3
      subst h1
      right
      simp only [Value.ownBlock, ne_eq, Option.some.injEq]
      intro e
      subst e
      have := hg.symm.trans hg2
      simp only [Option.some.injEq, Obj.cells.injEq] at this
      exact hne this.2.1
structure OsO (w : World) (base : Nat) (A : Option Addr) (n c : Nat) (os : List Opt) : Prop where
  len : os.length = n
  own : ∃ xs, OwnG w base 66 2 A n c xs ∧ ∀ j, j < n → xs[j * 2]? = some (.int .u8 (os.getD j zO).kind) ∧ ∃ B m d, xs[j * 2 + 1]? = some (.slice B m d) ∧ Own w base 5 B m d (os.getD j zO).dat
theorem osO_nil (w : World) (base : Nat) : OsO w base none 0 0 [] := ⟨rfl, [], ownG_nil _ _ _ _, fun j hj => by omega⟩
theorem OsO.below {w w' : World} {base : Nat} {A : Option Addr} {n c : Nat} {os : List Opt} (h : OsO w base A n c os) (hb : Below w.heap.size w w') : OsO w' base A n c os := by
  obtain ⟨xs, hx, hj⟩ := h.own
  refine ⟨h.len, xs, hx.below hb, fun j hjn => ?_⟩
  obtain ⟨h1, B, m, d, h2, h3⟩ := hj j hjn
  exact ⟨h1, B, m, d, h2, h3.below hb⟩
theorem OsO.mono {w : World} {base b' : Nat} {A : Option Addr} {n c : Nat} {os : List Opt} (h : OsO w base A n c os) (hb : b' ≤ base) : OsO w b' A n c os := by
  obtain ⟨xs, hx, hj⟩ := h.own
  refine ⟨h.len, xs, hx.mono hb, fun j hjn => ?_⟩
  obtain ⟨h1, B, m, d, h2, h3⟩ := hj j hjn
  exact ⟨h1, B, m, d, h2, h3.mono hb⟩
/-- One more. -/
theorem OsO.snoc {w w' : World} {base : Nat} {A A' : Option Addr} {n c c' : Nat} {os : List Opt} {xs : List Value} (h : OsO w base A n c os) (hx : OwnG w base 66 2 A n c xs)
    (hj : ∀ j, j < n → xs[j * 2]? = some (.int .u8 (os.getD j zO).kind) ∧ ∃ B m d, xs[j * 2 + 1]? = some (.slice B m d) ∧ Own w base 5 B m d (os.getD j zO).dat)
    (hg : w.grownBy w' (Value.slice A n c).ownBlock) (o : Opt) {B : Option Addr} {m d : Nat} (hd : Own w base 5 B m d o.dat) (ho : OwnG w' base 66 2 A' (n + 1) c' (xs ++ [.int .u8 o.kind, .slice B m d])) :
    OsO w' base A' (n + 1) c' (os ++ [o]) := by
  have hT : 66 ≠ 5 := by decide
  have hl := hx.len
  have hos := h.len
  refine ⟨by simp [hos], _, ho, fun j hjn => ?_⟩
  by_cases hlt : j < n
  · obtain ⟨h1, B', m', d', h2, h3⟩ := hj j hlt
    have e : (os ++ [o]).getD j zO = os.getD j zO := by
      rw [List.getD_eq_getElem?_getD, List.getD_eq_getElem?_getD, List.getElem?_append_left (by omega)]
    rw [e, List.getElem?_append_left (by omega), List.getElem?_append_left (by omega)]
    exact ⟨h1, B', m', d', h2, h3.kept hg (hx.ne_own h3 hT)⟩
  · obtain rfl : j = n := by omega
    have e : (os ++ [o]).getD j zO = o := by
      rw [List.getD_eq_getElem?_getD, List.getElem?_append_right (by omega), hos, Nat.sub_self]; rfl
    rw [e, List.getElem?_append_right (by omega), List.getElem?_append_right (by omega), hl, Nat.sub_self, show j * 2 + 1 - j * 2 = 1 from by omega]
    exact ⟨rfl, B, m, d, rfl, hd.kept hg (hx.ne_own hd hT)⟩
/-- Read as any slice of options. -/
theorem OsO.os {w : World} {base : Nat} {A : Option Addr} {n c : Nat} {os : List Opt} (h : OsO w base A n c os) (hn : n ≤ 4398046511104) (hok : ∀ o ∈ os, o.Ok) : Os w A n c os := by
  obtain ⟨xs, hx, hj⟩ := h.own
  rcases hx.row.2 with ⟨hv, h0⟩ | ⟨g, cap, cur, hv, _, hg, hnc, hcm, hcs, htake⟩
  · injection hv with h1 h2 h3
    subst h1 h2 h3
    exact ⟨h.len, Nat.le_refl _, by omega, fun _ => rfl, hok, fun h => by omega⟩
  · injection hv with h1 h2 h3
    subst h1 h3
    refine ⟨h.len, hnc, hn, (fun h => by cases h), hok, fun _ => ⟨g, 0, rfl, fun j hjn => ?_⟩⟩
    have hc : ∀ q v, xs[q]? = some v → w.cell? ⟨g, q, none⟩ = some v := fun q v hq => by
      rw [cell_of_row w g q cur 66 (0, 0) hg]
      rw [← htake, List.getElem?_take] at hq
      split at hq
      · simpa using hq
      · cases hq
    obtain ⟨h1, B, m, d, h2, h3⟩ := hj j hjn
    rw [Nat.zero_add]
    exact ⟨hc _ _ h1, B, m, d, hc _ _ h2, h3.bs⟩
end Go.Proofs.Ytjjhnjkmoogloaa

/- The document's reader of options. -/
namespace Go.Proofs.Ytjjhnjkmoogloaa
open Go.RowKit
set_option linter.unusedVariables false
set_option linter.unusedSimpArgs false
set_option maxHeartbeats 4000000
set_option maxRecDepth 100000

def isSm {α : Type} : Option α → Bool
  | some _ => true
  | none => false
/-- The options that bytes hold, as a reader gives them. -/
structure OpPost (w : World) (l : List UInt8) (e : Ending) (w' : World) : Prop where
  out : ∃ A n c, e = .returned (.tuple #[.slice A n c, .bool (isSm (optsP l))]) ∧ (∀ os, optsP l = some os → OsO w' w.heap.size A n c os ∧ n ≤ l.length) ∧ Below w.heap.size w w'
/-- What is known between two rounds. -/
def optsAt (l : List UInt8) (t : Nat) (os : List Opt) : Prop := optsP l = (optsP (l.drop t)).map (os ++ ·)
theorem optsAt_0 (l : List UInt8) : optsAt l 0 [] := by
  unfold optsAt
  rw [List.drop_zero]
  cases optsP l <;> simp
theorem optsAt_none {l : List UInt8} {t : Nat} {os : List Opt} (h : optsAt l t os) (hn : nx (l.drop t) = none) : optsP l = none := by rw [h, optsP_none hn]; rfl
theorem optsAt_end {l : List UInt8} {t : Nat} {os : List Opt} (h : optsAt l t os) (hn : nx (l.drop t) = some none) : optsP l = some os := by rw [h, optsP_end hn]; simp
theorem optsAt_some {l : List UInt8} {t : Nat} {os : List Opt} {o : Opt} {n : Nat} (h : optsAt l t os) (hn : nx (l.drop t) = some (some (o, n))) : optsAt l (t + n) (os ++ [o]) := by
  unfold optsAt at *
  rw [h, optsP_some hn, List.drop_drop]
  cases optsP (l.drop (t + n)) <;> simp
/-- The ways at a place. -/
theorem nx_ways (l : List UInt8) (t : Nat) (ht : t < l.length) :
    ((bt l t == 0) = true ∧ nx (l.drop t) = if allZ (l.drop t) then some none else none) ∨
    ((bt l t == 0) = false ∧ (bt l t == 1) = true ∧ nx (l.drop t) = some (some (⟨1, []⟩, 1))) ∨
    ((bt l t == 0) = false ∧ (bt l t == 1) = false ∧ ((l.length : Int) ≤ (t : Int) + 1 ∨ ((t : Int) + 1 < l.length ∧ (bt l (t + 1) < 2 ∨ (2 ≤ bt l (t + 1) ∧ (l.length : Int) < t + bt l (t + 1))))) ∧ nx (l.drop t) = none) ∨
    ((bt l t == 0) = false ∧ (bt l t == 1) = false ∧ (t : Int) + 1 < l.length ∧ 2 ≤ bt l (t + 1) ∧ (t : Int) + bt l (t + 1) ≤ l.length ∧ nx (l.drop t) = some (some (⟨bt l t, ((l.drop t).take (bt l (t + 1)).toNat).drop 2⟩, (bt l (t + 1)).toNat))) := by
  have h0 : bt (l.drop t) 0 = bt l t := by simp [bt]
  have h1 : bt (l.drop t) 1 = bt l (t + 1) := by simp [bt]
  have hl : (l.drop t).length = l.length - t := List.length_drop
  unfold nx
  rw [h0, h1, hl, if_neg (by omega)]
  by_cases c0 : bt l t = 0
  · left; simp [c0]
  · by_cases c1 : bt l t = 1
    · right; left; simp [c1]
    · right; right
      by_cases c2 : l.length - t < 2 ∨ bt l (t + 1) < 2 ∨ ((l.length - t : Nat) : Int) < bt l (t + 1)
      · left
        refine ⟨by simpa using c0, by simpa using c1, by omega, ?_⟩
        rw [if_neg c0, if_neg c1, if_pos c2]
      · right
        refine ⟨by simpa using c0, by simpa using c1, by omega, by omega, by omega, ?_⟩
        rw [if_neg c0, if_neg c1, if_neg c2]
end Go.Proofs.Ytjjhnjkmoogloaa

/- The program's iterator over a header's options: what it asks of the loop's body. -/
namespace Go.Proofs.Ytjjhnjkmoogloaa
open Go.RowKit Go.Shelf
attribute [local go_sem] Oper.semAt_some
set_option linter.unusedVariables false
set_option linter.unusedSimpArgs false
set_option maxHeartbeats 4000000
set_option maxRecDepth 100000

theorem split2_any (x : Int) (w : World) : Calls Try.prog 71 #[.int .u8 x] w fun e w' => e = .returned (.bool (x != 0)) ∧ w' = w := by
  go_enter Try.func71, Try.ntmps71
  go_wp2
  go_ret
  exact ⟨rfl, rfl⟩
theorem allZ_at {l : List UInt8} {j : Nat} (h : j < l.length) (hx : bt l j ≠ 0) : allZ l = false := by
  unfold allZ
  rw [List.all_eq_false]
  refine ⟨l[j], List.getElem_mem h, ?_⟩
  intro e
  simp only [beq_iff_eq] at e
  apply hx
  unfold bt
  rw [List.getD_eq_getElem?_getD, List.getElem?_eq_getElem h, Option.getD_some, e]
  rfl
theorem allZ_all {l : List UInt8} (h : ∀ j, j < l.length → bt l j = 0) : allZ l = true := by
  unfold allZ
  rw [List.all_eq_true]
  intro x hx
  obtain ⟨j, hj, rfl⟩ := List.mem_iff_getElem.1 hx
  have := h j hj
  unfold bt at this
  rw [List.getD_eq_getElem?_getD, List.getElem?_eq_getElem hj, Option.getD_some] at this
  simp only [beq_iff_eq]
  exact UInt8.toNat_inj.1 (by simpa using this)
theorem idxZ_any (A : Option Addr) (n c : Nat) (l : List UInt8) (w : World) (hb : Bs w A n c l) :
    Calls Try.prog 84 #[.slice A n c, .func (.func 71) #[] #[]] w fun e w' => (∃ r : Int, e = .returned (.int .i64 r) ∧ decide (0 ≤ r) = !allZ l) ∧ Below w.heap.size w w' := by
  have HL := Lib.hid hb.len
  have mx := hb.max
  go_enter Try.func84, Try.ntmps84
  go_wp2_with fail
  go_loopw [8] (fun i wr => ∃ j, j ≤ n ∧ i = .int .i64 (j : Nat) ∧ Below w.heap.size w wr ∧ Hid (∀ i, i < j → bt l i = 0)) (fun i _ => n - (intOf i).toNat)
  case atStart => exact ⟨0, by omega, rfl, Below.refl _ _, fun i hi => by omega⟩
  case round =>
    obtain ⟨j, hj, rfl, W0, Gj⟩ := hrel
    by_cases hlt : j < n
    · have hji : (j : Int) < n := by omega
      obtain ⟨b, off, rfl, hc⟩ := (hb.below W0).rd (by omega)
      have g0 := hc j hlt
      obtain ⟨x, hx⟩ : ∃ x, bt l j = x := ⟨_, rfl⟩
      rw [hx] at g0
      have HX := Lib.hid hx
      clear hc hx
      have hs := fun W => split2_any x W
      by_cases hq : x = 0
      · subst hq
        go_wp2_with (go_at_call 71; ((with_reducible refine (hs _).mono ?_); rintro e w4 ⟨rfl, rfl⟩))
        exact ⟨⟨j + 1, by omega, by go_num, W0, fun i hi => by
          by_cases e : i = j
          · rw [e]; exact HX.out
          · exact Gj.out i (by omega)⟩, by simp [intOf]; omega⟩
      · have hq2 : (x != 0) = true := by simpa using hq
        have hee : Hid (allZ l = false) := allZ_at (by rw [HL.out]; exact hlt) (by rw [HX.out]; exact hq)
        rw [hq2] at hs
        clear hq hq2
        go_wp2_with (go_at_call 71; ((with_reducible refine (hs _).mono ?_); rintro e w4 ⟨rfl, rfl⟩))
        go_ret
        exact ⟨⟨_, rfl, by rw [hee.out]; simp⟩, W0⟩
    · obtain rfl : j = n := by omega
      go_wp2_with fail
      have he : allZ l = true := allZ_all (fun i hi => Gj.out i (by rw [← HL.out]; exact hi))
      go_ret
      exact ⟨⟨_, rfl, by rw [he]; rfl⟩, W0⟩
theorem cont_any (A : Option Addr) (n c : Nat) (l : List UInt8) (w : World) (hb : Bs w A n c l) :
    Calls Try.prog 70 #[.slice A n c, .func (.func 71) #[] #[]] w fun e w' => e = .returned (.bool (!allZ l)) ∧ Below w.heap.size w w' := by
  go_enter Try.func70, Try.ntmps70
  go_wp2_with (go_at_call 84; ((with_reducible refine (idxZ_any A n c l _ hb).mono ?_); rintro e w4 ⟨⟨r, rfl, hr⟩, hB4⟩))
  go_ret
  exact ⟨rfl, hB4⟩

/-- What is yielded. -/
structure SpX where
  o : Opt
  A : Option Addr
  n : Nat
  c : Nat
  ok : Bool
/-- Between two rounds: the options that have come, the iterator's variable, what is at hand. -/
structure SpS where
  os : List Opt
  v : Value
  pd : Option SpX
  bad : Bool
def spStep (s : SpS) (x : SpX) : SpS := ⟨if x.ok then s.os ++ [x.o] else s.os, s.v, none, !x.ok⟩
def encX (x : SpX) : Array Value := #[.agg #[.int .u8 x.o.kind, .slice x.A x.n x.c], .bool x.ok]
def SplI (w : World) (B : Nat) (C : List Opt → World → Prop) (s : SpS) (W : World) : Prop :=
  C s.os W ∧ W.cell? ⟨B, 0, none⟩ = some s.v ∧ W.frozen? ⟨B, 0, none⟩ = false ∧ Below w.heap.size w W ∧ s.bad = false ∧ ∀ x, s.pd = some x → x.ok = true → Own W w.heap.size 5 x.A x.n x.c x.o.dat
def SplOk (l : List UInt8) (s : SpS) (x : SpX) : Prop := s.pd = some x ∧ (x.ok = false → optsP l = none) ∧ (x.ok = true → s.os.length < l.length)
theorem SplI.below {w : World} {B : Nat} {C : List Opt → World → Prop} (hC : ∀ os W W', C os W → Below W.heap.size W W' → C os W') {s : SpS} {W W' : World} (h : SplI w B C s W) (hb : Below W.heap.size W W') : SplI w B C s W' := by
  obtain ⟨h1, h2, h3, h4, h5, h6⟩ := h
  have hlt := World.block_lt_of_cell? W _ h2
  exact ⟨hC _ _ _ h1 hb, (hb.cell hlt).trans h2, (hb.frozen hlt).trans h3, below_then h4 hb, h5, fun x hx ho => (h6 x hx ho).below hb⟩
theorem SplI.with_ {w : World} {B : Nat} {C : List Opt → World → Prop} {s : SpS} {W : World} (h : SplI w B C s W) (x : SpX) (hx : x.ok = true → Own W w.heap.size 5 x.A x.n x.c x.o.dat) : SplI w B C ⟨s.os, s.v, some x, s.bad⟩ W := by
  obtain ⟨h1, h2, h3, h4, h5, h6⟩ := h
  exact ⟨h1, h2, h3, h4, h5, fun y hy ho => by simp only [Option.some.injEq] at hy; subst hy; exact hx ho⟩
end Go.Proofs.Ytjjhnjkmoogloaa

/- The program's iterator over a header's options, walked. -/
namespace Go.Proofs.Ytjjhnjkmoogloaa
open Go.RowKit Go.Shelf
attribute [local go_sem] Oper.semAt_some
set_option linter.unusedVariables false
set_option linter.unusedSimpArgs false
set_option maxHeartbeats 8000000
set_option maxRecDepth 100000

theorem roundBad {w : World} {B : Nat} {C : List Opt → World → Prop} {Ix : Code → SpS → World → Prop} {R : World → Prop} {Rx : Code → World → Prop} {s : SpS} {x : SpX} (hx : x.ok = false) {S : SpS → Prop} {e : Ending} {W : World}
    (h : roundSaid (spStep s x) (SplI w B C) Ix R Rx e W) : (∃ b, e = .returned (.bool b)) ∧ ∃ c s, Ix c s W ∧ Rx c W := by
  rcases h with ⟨rfl, ⟨_, _, _, _, hb, _⟩, _⟩ | ⟨rfl, c, h1, h2⟩
  · simp [spStep, hx] at hb
  · exact ⟨⟨_, rfl⟩, c, _, h1, h2⟩
theorem roundGood {w : World} {B : Nat} {C : List Opt → World → Prop} {Ix : Code → SpS → World → Prop} {R : World → Prop} {Rx : Code → World → Prop} (hIx : ∀ c s W, Ix c s W → s.bad = true) {s : SpS} {x : SpX} (hx : x.ok = true) {e : Ending} {W : World}
    (h : roundSaid (spStep s x) (SplI w B C) Ix R Rx e W) : e = .returned (.bool true) ∧ SplI w B C (spStep s x) W ∧ R W := by
  rcases h with h | ⟨_, c, h1, h2⟩
  · exact h
  · have := hIx _ _ _ h1
    simp [spStep, hx] at this
theorem wrap_i64 {x : Int} (h0 : 0 ≤ x) (h1 : x ≤ 255) : IntKind.i64.wrap x = x := by
  simp [IntKind.wrap, IntKind.signed, IntKind.bits]
  split <;> omega
theorem split1_in (D B : Nat) (w : World) (l : List UInt8) (n : Nat) (hl : l.length = n) (hB : w.heap.size ≤ B) (hBD : B < D) (hn : n ≤ 200000000000000) (C : List Opt → World → Prop) (Ix : Code → SpS → World → Prop) (R : World → Prop) (Rx : Code → World → Prop)
    (hC : ∀ os W W', C os W → Below W.heap.size W W' → C os W') (hCs : ∀ os W u, C os W → C os (W.setCell ⟨B, 0, none⟩ u)) (hIx : ∀ c s W, Ix c s W → s.bad = true) (hR : ∀ W W', R W → KeepsFrom D W W' → R W')
    (hY : ∀ s x W, SplOk l s x → SplI w B C s W → R W → YieldAt Fence.wide 1 Try.prog (D + 1) (encX x) W (roundSaid (spStep s x) (SplI w B C) Ix R Rx)) (W1 : World) (A0 : Option Addr) (c0 : Nat)
    (hb0 : Bs w A0 n c0 l) (h0 : SplI w B C ⟨[], .slice A0 n c0, none, false⟩ W1) (hR0 : R W1) :
    CallsIn Fence.wide 2 Try.prog 69 (#[.func (.yield (D + 1)) #[] #[]] ++ #[.pointer (some ⟨B, 0, none⟩)]) W1 (iterEnd (fun s => optsP l = some s.os) (SplI w B C) Ix R Rx) := by
  obtain ⟨i8, hi8, _, hs8, _⟩ := info_parts info_u8
  refine callsIn_of_wp Try.func69 rfl trivial ?_ rfl
  simp only [Try.ntmps69, List.size_toArray, List.length_cons, List.length_nil, Nat.reduceAdd, Nat.reduceSub, Array.replicate_succ, Array.replicate_zero, List.push_toArray, List.append_toArray, List.nil_append, List.cons_append]
  gi_wp2
  gi_loopw [3, 4] (fun _ _ wr => ∃ t os A m c, Hid (m + t = n) ∧ Hid (os.length ≤ t) ∧ Hid (optsAt l t os) ∧ Bs w A m c (l.drop t) ∧ SplI w B C ⟨os, .slice A m c, none, false⟩ wr ∧ R wr) (fun _ _ wr => leftIn B wr)
  case atStart => exact ⟨0, [], A0, n, c0, by unfold Hid; omega, by unfold Hid; simp, optsAt_0 l, by simpa using hb0, h0, hR0⟩
  case round =>
    obtain ⟨t, os, A, m, c, hm, hk, hat, hb, hi, hr⟩ := hrel
    have hi' := hi
    obtain ⟨hc, hcell, hfz, hbel, -, -⟩ := hi
    have hlf := leftIn_eq hcell
    dsimp only at hcell hc
    have hBlt := World.block_lt_of_cell? wr _ hcell
    dsimp only at hBlt
    have hbad : ∀ W, optsP l = none → SplI w B C ⟨os, .slice A m c, none, false⟩ W → R W → YieldAt Fence.wide 1 Try.prog (D + 1) #[.agg #[.int .u8 0, .slice none 0 0], .bool false] W (roundSaid (spStep ⟨os, .slice A m c, some ⟨zO, none, 0, 0, false⟩, false⟩ ⟨zO, none, 0, 0, false⟩) (SplI w B C) Ix R Rx) := fun W hnone hi hr =>
      hY ⟨os, .slice A m c, some ⟨zO, none, 0, 0, false⟩, false⟩ ⟨zO, none, 0, 0, false⟩ W ⟨rfl, fun _ => hnone, fun h => by cases h⟩ (hi.with_ _ (fun h => by cases h)) hr
    by_cases h2 : 0 < m
    · have hbr := hb.below hbel
      obtain ⟨b, off, rfl, hcs⟩ := hbr.rd h2
      have g0 := hcs 0 h2
      rw [bt_drop, Nat.add_zero, Nat.add_zero] at g0
      have b0 := bt_lo l t
      have b0' := bt_hi l t
      have hcap := hb.cap
      have hblt := World.block_lt_of_cell? wr _ g0
      dsimp only at hblt
      rcases nx_ways l t (by have := hm.out; omega) with ⟨q0, hnx⟩ | ⟨q0, q1, hnx⟩ | ⟨q0, q1, q2, hnx⟩ | ⟨q0, q1, q2, q3, q4, hnx⟩
      · have hz0 : bt l t = 0 := by simpa using q0
        rw [hz0] at g0
        have HN := Lib.hid hnx
        clear q0 hnx b0 b0' hcs
        obtain ⟨z, hz⟩ : ∃ z, allZ (l.drop t) = z := ⟨_, rfl⟩
        have hcn := fun W k => cont_any (some ⟨b, off, none⟩) m c (l.drop t) W k
        rw [hz] at hcn
        have HZ := Lib.hid hz
        clear hz hz0
        cases z with
        | true =>
          have HO : Hid (optsP l = some os) := optsAt_end hat.out (by rw [HN.out, HZ.out]; rfl)
          clear HN HZ
          gi_wp2_with (refine ⟨trivial, ?_⟩; gi_at_call 70; refine (callsIn_wide.2 (hcn _ hbr)).mono ?_; rintro e w2 ⟨rfl, hB2⟩)
          go_end0
          exact ⟨⟨_, rfl⟩, .inl ⟨_, HO.out, hi'.below hC hB2, hR _ _ hr (keeps_below hB2)⟩⟩
        | false =>
          have HO : Hid (optsP l = none) := optsAt_none hat.out (by rw [HN.out, HZ.out]; rfl)
          clear HN HZ
          gi_wp2_with (refine ⟨trivial, ?_⟩; gi_at_call 70; refine (callsIn_wide.2 (hcn _ hbr)).mono ?_; rintro e w2 ⟨rfl, hB2⟩; obtain ⟨fn, tmps, assign, body, hy, hR2⟩ := hbad w2 HO.out (hi'.below hC hB2) (hR _ _ hr (keeps_below hB2)))
          refine hR2.mono ?_
          rintro e W2 hrs
          obtain ⟨⟨bb, rfl⟩, cc, ss, hx1, hx2⟩ := roundBad (S := fun _ => True) rfl hrs
          gi_wp2
          go_end0
          exact ⟨⟨_, rfl⟩, .inr ⟨cc, ss, hx1, hx2⟩⟩
      · have hz0 : bt l t = 1 := by simpa using q1
        rw [hz0] at g0
        have HS : Hid (optsAt l (t + 1) (os ++ [⟨1, []⟩])) := optsAt_some hat.out hnx
        clear q0 q1 hnx b0 b0' hcs hz0
        have hbA : Below wr.heap.size wr (wr.alloc (.cells #[.int .u8 1, .slice none 0 0] 66)) := (Below.refl _ _).alloc (Nat.le_refl _) _
        obtain ⟨fn, tmps, assign, body, hy, hR2⟩ := hY ⟨os, .slice (some ⟨b, off, none⟩) m c, some ⟨⟨1, []⟩, none, 0, 0, true⟩, false⟩ ⟨⟨1, []⟩, none, 0, 0, true⟩ _ ⟨rfl, (fun h => by cases h), fun _ => by have := hk.out; have := hm.out; simp only; omega⟩ ((hi'.below hC hbA).with_ ⟨⟨1, []⟩, none, 0, 0, true⟩ (fun _ => own_nil _ _ _)) (hR _ _ hr (keeps_below hbA))
        dsimp only [encX] at hy
        have hcut : ∀ W, (Instr.slice 24 (.slice (some ⟨b, off, none⟩) m c) (some (.int .i64 1)) none none).run Try.prog W = _ := fun W => cut_l Try.underlying24 hi8 hs8 (some ⟨b, off, none⟩) m c .i64 1 (by omega) (by omega) W
        obtain ⟨A', n', c', eA, en, ec, hb2⟩ := hb.cutE (lo := 1) (hi := m) (by omega) (Nat.le_refl _)
        simp only [show (1 : Int).toNat = 1 from rfl, eA, en, ec] at hcut
        have hb3 : Bs w A' n' c' (l.drop (t + 1)) := by
          rw [List.take_of_length_le (by rw [hb.len]; exact Nat.le_refl _), List.drop_drop] at hb2
          exact hb2
        have HM : Hid (n' + 1 = m) := by unfold Hid; omega
        clear eA en ec hb2 hlf
        gi_wp2
        refine hR2.mono ?_
        rintro e W3 hrs
        obtain ⟨rfl, hi3, hr3⟩ := roundGood hIx rfl hrs
        obtain ⟨hc3, hcell3, hfz3, hbel3, -, -⟩ := hi3
        dsimp only [spStep] at hcell3 hc3
        gi_wp2
        go_roundw
        case rel => exact ⟨t + 1, os ++ [⟨1, []⟩], A', n', c', by have := HM.out; have := hm.out; unfold Hid; omega, by have := hk.out; unfold Hid; simp; omega, HS, hb3, ⟨hCs _ _ _ hc3, by rw [World.cell?_setCell_same' _ _ _ (by rw [hcell3]; rfl)], by rw [World.frozen?_setCell]; exact hfz3, hbel3.setCell (p := ⟨B, 0, none⟩) hB _, rfl, fun x h => by cases h⟩, hR _ _ hr3 (keeps_setCell _ _ _)⟩
        case measure => rw [leftIn_eq (World.cell?_setCell_same' W3 _ _ (by rw [hcell3]; rfl)), leftIn_eq hcell]; have := HM.out; omega
      · have HO := Lib.hid (optsAt_none hat.out hnx)
        have h2i : 0 < (m : Int) := by omega
        obtain ⟨k0, hk0⟩ : ∃ k0, bt l t = k0 := ⟨_, rfl⟩
        rw [hk0] at g0 q0 q1
        have e0 : (k0 != 0) = true := by simpa using q0
        have e1 : (k0 != 1) = true := by simpa using q1
        have hml := hm.out
        clear hnx b0 b0' hk0 hlf
        by_cases h3 : (m : Int) < 2
        · clear q2 hcs hml
          gi_wp2_with (gi_quiet_th (fail); obtain ⟨fn, tmps, assign, body, hy, hR2⟩ := hbad (wr.drewN nq) HO.out (hi'.below hC (below_drewN (Below.refl _ wr) nq)) (hR _ _ hr (keeps_below (below_drewN (Below.refl _ wr) nq))))
          refine hR2.mono ?_
          rintro e W2 hrs
          obtain ⟨⟨bb, rfl⟩, cc, ss, hx1, hx2⟩ := roundBad (S := fun _ => True) rfl hrs
          gi_wp2
          go_end0
          exact ⟨⟨_, rfl⟩, .inr ⟨cc, ss, hx1, hx2⟩⟩
        · obtain ⟨k1, hk1⟩ : ∃ k1, bt l (t + 1) = k1 := ⟨_, rfl⟩
          have g1 := hcs 1 (by omega)
          rw [bt_drop, hk1] at g1
          rw [hk1] at q2
          have b1 := bt_lo l (t + 1)
          have b1' := bt_hi l (t + 1)
          rw [hk1] at b1 b1'
          have hq : k1 < 2 ∨ (¬ k1 < 2 ∧ (m : Int) < k1) := by omega
          have h31 : (1 : Int) < m := by omega
          have h34 : IntKind.i64.wrap k1 = k1 := wrap_i64 (by omega) (by omega)
          have h32 : decide ((m : Int) < 2) = false := by simpa using h3
          clear q2 hcs hml hk1
          rcases hq with h4 | ⟨h4, h5⟩
          · gi_wp2_with (gi_quiet_th (fail); obtain ⟨fn, tmps, assign, body, hy, hR2⟩ := hbad (wr.drewN nq) HO.out (hi'.below hC (below_drewN (Below.refl _ wr) nq)) (hR _ _ hr (keeps_below (below_drewN (Below.refl _ wr) nq))))
            refine hR2.mono ?_
            rintro e W2 hrs
            obtain ⟨⟨bb, rfl⟩, cc, ss, hx1, hx2⟩ := roundBad (S := fun _ => True) rfl hrs
            gi_wp2
            go_end0
            exact ⟨⟨_, rfl⟩, .inr ⟨cc, ss, hx1, hx2⟩⟩
          · gi_wp2_with (gi_quiet_th (fail); obtain ⟨fn, tmps, assign, body, hy, hR2⟩ := hbad (wr.drewN nq) HO.out (hi'.below hC (below_drewN (Below.refl _ wr) nq)) (hR _ _ hr (keeps_below (below_drewN (Below.refl _ wr) nq))))
            refine hR2.mono ?_
            rintro e W2 hrs
            obtain ⟨⟨bb, rfl⟩, cc, ss, hx1, hx2⟩ := roundBad (S := fun _ => True) rfl hrs
            gi_wp2
            go_end0
            exact ⟨⟨_, rfl⟩, .inr ⟨cc, ss, hx1, hx2⟩⟩
      · obtain ⟨k0, hk0⟩ : ∃ k0, bt l t = k0 := ⟨_, rfl⟩
        obtain ⟨n1, hk1⟩ : ∃ n1 : Nat, bt l (t + 1) = (n1 : Int) := ⟨(bt l (t + 1)).toNat, by have := bt_lo l (t + 1); omega⟩
        have g1 := hcs 1 (by have := hm.out; omega)
        have b1' := bt_hi l (t + 1)
        rw [bt_drop, hk1] at g1
        rw [hk0] at g0 q0 q1 hnx b0 b0'
        rw [hk1] at q3 q4 hnx b1'
        simp only [Int.toNat_natCast] at hnx
        have e0 : (k0 != 0) = true := by simpa using q0
        have e1 : (k0 != 1) = true := by simpa using q1
        have HS : Hid (optsAt l (t + n1) (os ++ [⟨k0, ((l.drop t).take n1).drop 2⟩])) := optsAt_some hat.out hnx
        have hml := hm.out
        have i1 : ¬ (m : Int) < 2 := by omega
        have i0 : (1 : Int) < m := by omega
        have i7 : IntKind.i64.wrap (n1 : Int) = n1 := wrap_i64 (by omega) (by omega)
        have i2 : ¬ (n1 : Int) < 2 := by omega
        have i3 : ¬ (m : Int) < (n1 : Int) := by omega
        have i4 : decide ((m : Int) < 2) = false := by simpa using i1
        have i5 : decide ((n1 : Int) < 2) = false := by simpa using i2
        have i6 : decide ((m : Int) < (n1 : Int)) = false := by simpa using i3
        have hcut : ∀ W, (Instr.slice 24 (.slice (some ⟨b, off, none⟩) m c) (some (.int .i64 (n1 : Int))) none none).run Try.prog W = _ := fun W => cut_l Try.underlying24 hi8 hs8 (some ⟨b, off, none⟩) m c .i64 (n1 : Int) (by omega) (by omega) W
        obtain ⟨A', n', c', eA, en, ec, hb2⟩ := hb.cutE (lo := n1) (hi := m) (by omega) (Nat.le_refl _)
        simp only [Int.toNat_natCast, eA, en, ec] at hcut
        have hb3 : Bs w A' n' c' (l.drop (t + n1)) := by
          rw [List.take_of_length_le (by rw [hb.len]; exact Nat.le_refl _), List.drop_drop] at hb2
          exact hb2
        have HM : Hid (n' + n1 = m) := by unfold Hid; omega
        have HN1 : Hid (2 ≤ n1 ∧ n1 ≤ m) := by unfold Hid; omega
        clear q0 q1 q3 q4 hnx hcs hk0 hk1 eA en ec hb2 hlf hml
        by_cases h6 : (n1 : Int) > 2
        · have hcut2 : ∀ W, (Instr.slice 24 (.slice (some ⟨b, off, none⟩) m c) (some (.int .i64 2)) (some (.int .i64 (n1 : Int))) none).run Try.prog W = _ := fun W => cut_lh Try.underlying24 hi8 hs8 (some ⟨b, off, none⟩) m c .i64 .i64 2 (n1 : Int) (by omega) (by omega) (by have := HN1.out; omega) W
          obtain ⟨A'', n'', c'', eA, en, ec, hb4⟩ := hb.cutE (lo := 2) (hi := n1) (by omega) HN1.out.2
          simp only [Int.toNat_natCast, show (2 : Int).toNat = 2 from rfl, eA, en, ec] at hcut2
          clear eA en ec
          obtain ⟨d, hd⟩ : ∃ d, ((l.drop t).take n1).drop 2 = d := ⟨_, rfl⟩
          rw [hd] at hb4 HS
          clear hd
          gi_wp2_with (first
            | (gi_quiet_th (fail); (obtain ⟨wq, hwq⟩ : ∃ W, wr.drewN nq = W := ⟨_, rfl⟩); rw [hwq]; have hbq : Below wr.heap.size wr wq := (by rw [← hwq]; exact below_drewN (Below.refl _ wr) nq); have hcellq := (hbq.cell hBlt).trans hcell; have hfzq := (hbq.frozen (p := ⟨B, 0, none⟩) hBlt).trans hfz; have g0q := (hbq.cell hblt).trans g0; have g1q := (hbq.cell (p := ⟨b, off + 1, none⟩) hblt).trans g1; have hBltq := Nat.lt_of_lt_of_le hBlt hbq.size; have hbltq := Nat.lt_of_lt_of_le hblt hbq.size; clear hwq)
            | (refine ⟨trivial, ?_⟩; gi_at_call 40; refine (callsIn_wide.2 (clone_any A'' n'' c'' d _ ((hb4.below (below_then hbel hbq)).alloc _))).mono ?_; rintro e w3 ⟨A4, c4, rfl, ho4, hB3⟩; (obtain ⟨kP, hkP⟩ : ∃ k, wq.heap.size = k := ⟨_, rfl⟩); have P3 := (blk_new wq #[.int .u8 k0, .slice none 0 0] 66 kP hkP).below hB3; have pc3 := P3.cell; (obtain ⟨w5, hw5, S5⟩ := store1 P3 1 (.slice A4 n'' c4)); have pc5 := S5.blk.cell; have hb5 : Below wr.heap.size wr w5 := S5.bel (below_then hbq (below_then ((Below.refl _ _).alloc (Nat.le_refl _) _) hB3)) (by rw [← hkP]; exact hbq.size); obtain ⟨fn, tmps, assign, body, hy, hR2⟩ := hY ⟨os, .slice (some ⟨b, off, none⟩) m c, some ⟨⟨k0, d⟩, A4, n'', c4, true⟩, false⟩ ⟨⟨k0, d⟩, A4, n'', c4, true⟩ w5 ⟨rfl, (fun h => by cases h), fun _ => by have := hk.out; have := hm.out; simp only; omega⟩ ((hi'.below hC hb5).with_ ⟨⟨k0, d⟩, A4, n'', c4, true⟩ (fun _ => (S5.own ho4 (fun a e => by have := ho4.ge a e; simp only [World.size_alloc] at this; omega)).mono (by have := hbel.size; have := hbq.size; simp only [World.size_alloc]; omega))) (hR _ _ hr (keeps_below hb5)); dsimp only [encX] at hy))
          refine hR2.mono ?_
          rintro e W3 hrs
          obtain ⟨rfl, hi3, hr3⟩ := roundGood hIx rfl hrs
          obtain ⟨hc3, hcell3, hfz3, hbel3, -, -⟩ := hi3
          dsimp only [spStep] at hcell3 hc3
          gi_wp2
          go_roundw
          case rel => exact ⟨t + n1, os ++ [⟨k0, d⟩], A', n', c', by have := HM.out; have := hm.out; unfold Hid; omega, by have := hk.out; have := HN1.out; unfold Hid; simp; omega, HS, hb3, ⟨hCs _ _ _ hc3, by rw [World.cell?_setCell_same' _ _ _ (by rw [hcell3]; rfl)], by rw [World.frozen?_setCell]; exact hfz3, hbel3.setCell (p := ⟨B, 0, none⟩) hB _, rfl, fun x h => by cases h⟩, hR _ _ hr3 (keeps_setCell _ _ _)⟩
          case measure => rw [leftIn_eq (World.cell?_setCell_same' W3 _ _ (by rw [hcell3]; rfl)), leftIn_eq hcell]; have := HM.out; have := HN1.out; omega
        · obtain rfl : n1 = 2 := by have := HN1.out; omega
          rw [show ((l.drop t).take 2).drop 2 = [] from List.drop_eq_nil_of_le (by rw [List.length_take]; omega)] at HS
          have hcut3 : ∀ W, (Instr.slice 24 (.slice (some ⟨b, off, none⟩) m c) (some (.int .i64 2)) none none).run Try.prog W = .ok (.slice A' n' c') W := hcut
          clear hcut
          gi_wp2_with (gi_quiet_th (fail); (obtain ⟨wq, hwq⟩ : ∃ W, wr.drewN nq = W := ⟨_, rfl⟩); rw [hwq]; have hbq : Below wr.heap.size wr wq := (by rw [← hwq]; exact below_drewN (Below.refl _ wr) nq); have hcellq := (hbq.cell hBlt).trans hcell; have hfzq := (hbq.frozen (p := ⟨B, 0, none⟩) hBlt).trans hfz; have g0q := (hbq.cell hblt).trans g0; have g1q := (hbq.cell (p := ⟨b, off + 1, none⟩) hblt).trans g1; have hBltq := Nat.lt_of_lt_of_le hBlt hbq.size; have hbltq := Nat.lt_of_lt_of_le hblt hbq.size; clear hwq; have hbA : Below wr.heap.size wr (wq.alloc (.cells #[.int .u8 k0, .slice none 0 0] 66)) := below_then hbq ((Below.refl _ _).alloc (Nat.le_refl _) _); obtain ⟨fn, tmps, assign, body, hy, hR2⟩ := hY ⟨os, .slice (some ⟨b, off, none⟩) m c, some ⟨⟨k0, []⟩, none, 0, 0, true⟩, false⟩ ⟨⟨k0, []⟩, none, 0, 0, true⟩ _ ⟨rfl, (fun h => by cases h), fun _ => by have := hk.out; have := hm.out; simp only; omega⟩ ((hi'.below hC hbA).with_ ⟨⟨k0, []⟩, none, 0, 0, true⟩ (fun _ => own_nil _ _ _)) (hR _ _ hr (keeps_below hbA)); dsimp only [encX] at hy)
          refine hR2.mono ?_
          rintro e W3 hrs
          obtain ⟨rfl, hi3, hr3⟩ := roundGood hIx rfl hrs
          obtain ⟨hc3, hcell3, hfz3, hbel3, -, -⟩ := hi3
          dsimp only [spStep] at hcell3 hc3
          gi_wp2
          go_roundw
          case rel => exact ⟨t + 2, os ++ [⟨k0, []⟩], A', n', c', by have := HM.out; have := hm.out; unfold Hid; omega, by have := hk.out; have := HN1.out; unfold Hid; simp; omega, HS, hb3, ⟨hCs _ _ _ hc3, by rw [World.cell?_setCell_same' _ _ _ (by rw [hcell3]; rfl)], by rw [World.frozen?_setCell]; exact hfz3, hbel3.setCell (p := ⟨B, 0, none⟩) hB _, rfl, fun x h => by cases h⟩, hR _ _ hr3 (keeps_setCell _ _ _)⟩
          case measure => rw [leftIn_eq (World.cell?_setCell_same' W3 _ _ (by rw [hcell3]; rfl)), leftIn_eq hcell]; have := HM.out; have := HN1.out; omega
    · have hm0 : m ≤ 0 := by omega
      obtain rfl : m = 0 := by omega
      have HO : Hid (optsP l = some os) := optsAt_end hat.out (by rw [List.drop_of_length_le (by have := hm.out; omega)]; rfl)
      have hcn := fun W k => cont_any A 0 c (l.drop t) W k
      rw [show allZ (l.drop t) = true from by rw [List.drop_of_length_le (by have := hm.out; omega)]; rfl] at hcn
      clear hlf
      gi_wp2_with (refine ⟨trivial, ?_⟩; gi_at_call 70; refine (callsIn_wide.2 (hcn _ (hb.below hbel))).mono ?_; rintro e w2 ⟨rfl, hB2⟩)
      go_end0
      exact ⟨⟨_, rfl⟩, .inl ⟨_, HO.out, hi'.below hC hB2, hR _ _ hr (keeps_below hB2)⟩⟩
end Go.Proofs.Ytjjhnjkmoogloaa

/- A scope with one label that is jumped to forward only. -/
namespace Go.Proofs.Ytjjhnjkmoogloaa
open Go.RowKit Go.Shelf
set_option linter.unusedVariables false

theorem wp_scope_fwd {P : Program} {a : Act} {w : World} {Q : Exit → Act → World → Prop} {c rest : Code} (l : Nat) (J : Act → World → Prop) (hf : findLabel c l = some rest)
    (first : c.wp P (Exit.jump l J Q) a w) (pass : ∀ a w, J a w → rest.wp P (Exit.noGoto Q) a w) : (Code.scope c).wp P Q a w := by
  refine wp_scope_jumps l J (fun _ _ => 0) hf first fun a w h => ?_
  refine wp_mono (pass a w h) ?_
  intro e a w hq
  cases e <;> first | exact hq | exact hq.elim
theorem wpIn_scope_fwd {P : Program} {a : Act} {w : World} {Q : Exit → Act → World → Prop} {n : Nat} {c rest : Code} (l : Nat) (J : Act → World → Prop) (hf : findLabel c l = some rest)
    (first : c.wpIn Fence.wide n P (Exit.jump l J Q) a w) (pass : ∀ a w, J a w → rest.wpIn Fence.wide n P (Exit.noGoto Q) a w) : (Code.scope c).wpIn Fence.wide n P Q a w :=
  wpIn_wide.2 (wp_scope_fwd l J hf (wpIn_wide.1 first) fun a w h => wpIn_wide.1 (pass a w h))
section
variable {Q : Exit → Act → World → Prop} {a : Act} {w : World} {J : Act → World → Prop} {l : Nat}
theorem jump_normal : Exit.jump l J Q .normal a w = Q .normal a w := rfl
theorem jump_exit (id : Nat) : Exit.jump l J Q (.exit id) a w = Q (.exit id) a w := rfl
theorem jump_ret : Exit.jump l J Q .ret a w = Q .ret a w := rfl
theorem jump_panic (ch : List PanicEntry) : Exit.jump l J Q (.panic ch) a w = Q (.panic ch) a w := rfl
theorem jump_goto : Exit.jump l J Q (.goto l) a w = J a w := by simp [Exit.jump]
end
/-- The slots of an act, one by one. -/
theorem slots {a : Act} {n : Nat} (h : a.tmps.size = n) : ∃ f : Nat → Value, a.tmps = ((List.range n).map f).toArray ∧ ∀ i v, i < n → a.tmps[i]? = some v → f i = v := by
  refine ⟨fun i => a.tmps.getD i undef, ?_, fun i v hi hv => by simp [hv]⟩
  apply Array.ext_getElem?
  intro i
  by_cases hi : i < n
  · have : i < a.tmps.size := by omega
    simp [hi, this, Array.getD_eq_getD_getElem?]
  · rw [Array.getElem?_eq_none (by omega)]
    simp [hi]
end Go.Proofs.Ytjjhnjkmoogloaa

/- A packet's segment, parsed by the program. -/
namespace Go.Proofs.Ytjjhnjkmoogloaa
open Go.RowKit Go.Shelf
attribute [local go_sem] Oper.semAt_some jump_normal jump_exit jump_ret jump_panic jump_goto
set_option linter.unusedVariables false
set_option linter.unusedSimpArgs false
set_option maxHeartbeats 8000000
set_option maxRecDepth 100000

structure TcPost (w : World) (s : Seg) (E : Int) (e : Ending) (w' : World) : Prop where
  out : ∃ OA on oc DA dn dc, e = .returned (.tuple #[(.agg #[.int .u16 (s).src, .int .u16 (s).dst, .int .u32 (s).seq, .int .u32 (s).ack, .int .u8 (s).flags, .int .u16 (s).win, .int .u16 (s).urg, .slice OA on oc, .slice DA dn dc]), .int .i64 E]) ∧ OsO w' w.heap.size OA on oc s.opts ∧ on ≤ 40 ∧ Own w' w.heap.size 5 DA dn dc s.dat ∧ Below w.heap.size w w'
theorem tcPost_no {w w' : World} {E : Int} (hB : Below w.heap.size w w') : TcPost w zS E (.returned (.tuple #[.agg #[.int .u16 0, .int .u16 0, .int .u32 0, .int .u32 0, .int .u8 0, .int .u16 0, .int .u16 0, .slice none 0 0, .slice none 0 0], .int .i64 E])) w' :=
  ⟨none, 0, 0, none, 0, 0, rfl, osO_nil _ _, by omega, own_nil _ _ _, hB⟩
/-- What holds where the run jumps to 'none'. -/
structure TcJ (w : World) (k : Nat) (E : Int) (a : Act) (W : World) : Prop where
  size : a.tmps.size = 87
  t2 : a.tmps[2]? = some (.pointer (some ⟨k + 1, 0, none⟩))
  t3 : a.tmps[3]? = some (.pointer (some ⟨k + 1 + 1, 0, none⟩))
  s : ∃ c0 c1 c2 c3 c4 c5 c6 c7 c8, Blk W (k + 1) #[c0, c1, c2, c3, c4, c5, c6, c7, c8] 29
  e : Blk W (k + 1 + 1) #[.int .i64 E] 30
  bel : Below w.heap.size w W
  de : a.defers = [] ∨ ∃ D, a.defers = [{ target := .collected D, args := #[] }] ∧ W.heap[D]? = some (.deferred (some [])) ∧ w.heap.size ≤ D
theorem heap_setCell_ne (W : World) (b o : Nat) (v : Value) (D : Nat) (h : b ≠ D) : (W.setCell ⟨b, o, none⟩ v).heap[D]? = W.heap[D]? := by
  simp [World.setCell, Array.getElem?_modify, h]
theorem tcp_no (p : Pkt) (hp : p.Ok) (A1 : Option Addr) (n1 c1 : Nat) (A2 : Option Addr) (n2 c2 : Nat) (w : World) (k2 : Bs w A2 n2 c2 p.dat) (E x q : Int) (hd : Nat) (hx : bt p.dat 12 = x) (hq : x / 16 = q) (hh : q * 4 = (hd : Int))
    (h : (E = 12 ∧ (p.proto != 6) = true) ∨ (E = 3 ∧ (p.proto != 6) = false ∧ (n2 : Int) < 20) ∨ (E = 4 ∧ (p.proto != 6) = false ∧ 20 ≤ (n2 : Int) ∧ (hd : Int) < 20) ∨ (E = 4 ∧ (p.proto != 6) = false ∧ 20 ≤ (n2 : Int) ∧ 20 ≤ (hd : Int) ∧ (x % 16 != 0) = true) ∨
      (E = 3 ∧ (p.proto != 6) = false ∧ 20 ≤ (n2 : Int) ∧ 20 ≤ (hd : Int) ∧ (x % 16 != 0) = false ∧ (n2 : Int) < (hd : Int)) ∨ (E = 5 ∧ (p.proto != 6) = false ∧ 20 ≤ (n2 : Int) ∧ 20 ≤ (hd : Int) ∧ (x % 16 != 0) = false ∧ (hd : Int) ≤ (n2 : Int) ∧ (psum p 6 p.dat == 0) = false ∧ n2 ≤ 140737488400000)) :
    Calls Try.prog 14 #[(.agg #[.int .u8 (p).tos, .int .u16 (p).id, .bool (p).keep, .int .u8 (p).ttl, .int .u8 (p).proto, .int .u32 (p).src, .int .u32 (p).dst, .slice A1 n1 c1, .slice A2 n2 c2])] w (TcPost w zS E) := by
  have b2 := k2.max
  obtain ⟨k, hk⟩ : ∃ k : Nat, w.heap.size = k := ⟨_, rfl⟩
  obtain ⟨w1, hw1⟩ : ∃ W, (((w.alloc (.cells #[.int .u8 (p).tos, .int .u16 (p).id, .bool (p).keep, .int .u8 (p).ttl, .int .u8 (p).proto, .int .u32 (p).src, .int .u32 (p).dst, .slice A1 n1 c1, .slice A2 n2 c2] 26)).alloc (.cells #[.int .u16 0, .int .u16 0, .int .u32 0, .int .u32 0, .int .u8 0, .int .u16 0, .int .u16 0, .slice none 0 0, .slice none 0 0] 29)).alloc (.cells #[.int .i64 0] 30)) = W := ⟨_, rfl⟩
  have P1 : Blk w1 k #[.int .u8 (p).tos, .int .u16 (p).id, .bool (p).keep, .int .u8 (p).ttl, .int .u8 (p).proto, .int .u32 (p).src, .int .u32 (p).dst, .slice A1 n1 c1, .slice A2 n2 c2] 26 := by rw [← hw1]; exact (((blk_new _ _ _ k (by simp [hk])).alloc _).alloc _)
  have S1 : Blk w1 (k + 1) #[.int .u16 0, .int .u16 0, .int .u32 0, .int .u32 0, .int .u8 0, .int .u16 0, .int .u16 0, .slice none 0 0, .slice none 0 0] 29 := by rw [← hw1]; exact ((blk_new _ _ _ (k + 1) (by simp [hk])).alloc _)
  have E1 : Blk w1 (k + 1 + 1) #[.int .i64 0] 30 := by rw [← hw1]; exact (blk_new _ _ _ (k + 1 + 1) (by simp [hk]))
  have R1 : Below w.heap.size w w1 := by rw [← hw1]; (repeat (first | with_reducible exact Below.refl _ _ | with_reducible refine below_drew ?_ | with_reducible refine below_drewN ?_ _ | with_reducible refine below_alloc ?_ (Nat.le_refl _) _ | with_reducible refine Below.setCell ?_ (by first | exact Nat.le_refl _ | (simp only []; omega)) _ | with_reducible assumption))
  have Pc1 := P1.cell
  have Sc1 := S1.cell
  have Ec1 := E1.cell
  have Pl1 := P1.lt
  have Sl1 := S1.lt
  have El1 := E1.lt
  have x1 := (k2).below R1
  refine (callsIn_wide (n := 3)).1 ?_
  refine callsIn_of_wp_marks Try.func14 rfl trivial ?_ rfl
  simp only [Try.ntmps14, List.size_toArray, List.length_cons, List.length_nil, Nat.reduceAdd, Nat.reduceSub, Array.replicate_succ, Array.replicate_zero, List.push_toArray, List.append_toArray, List.nil_append, List.cons_append]
  gi_wp2
  refine wpIn_scope_fwd 0 (TcJ w k E) rfl ?first ?pass
  case pass =>
    rintro a W ⟨hs, h2, h3, ⟨d0, d1, d2, d3, d4, d5, d6, d7, d8, S⟩, Eb, hB, hde⟩
    obtain ⟨f, hf, hfv⟩ := slots hs
    have f2 := hfv 2 _ (by omega) h2
    have f3 := hfv 3 _ (by omega) h3
    obtain ⟨tm, df⟩ := a
    simp only at hf hde
    subst hf
    have sc := S.cell
    have ec := Eb.cell
    simp only [List.range, List.range.loop, List.map_cons, List.map_nil, f2, f3]
    have sl := S.lt
    have el := Eb.lt
    gi_wp2_with gi_region
    obtain ⟨wf, hwf, Sf⟩ := store9 S (.int .u16 0) (.int .u16 0) (.int .u32 0) (.int .u32 0) (.int .u8 0) (.int .u16 0) (.int .u16 0) (.slice none 0 0) (.slice none 0 0)
    rw [hwf]
    have Ef := Sf.other (k := k + 1 + 1) (by omega) Eb
    obtain ⟨wg, hwg, Sg⟩ := store1 Ef 0 (.int .i64 E)
    rw [hwg, Exit.noGoto_ret]
    have Sz := Sg.other (k := k + 1) (by omega) Sf.blk
    have pf := (Sz.drew).cell
    have pg := (Sg.blk.drew).cell
    have Tg := Sg.bel (Sf.bel hB (by omega)) (by omega)
    have hdn : ∀ D : Nat, W.heap[D]? = some (Obj.deferred (some [])) → wg.drew.heap[D]? = some (Obj.deferred (some [])) := fun D h => by
      have e1 : k + 1 ≠ D := fun e => by subst e; have := S.rd; rw [h] at this; cases this
      have e2 : k + 1 + 1 ≠ D := fun e => by subst e; have := Eb.rd; rw [h] at this; cases this
      show wg.heap[D]? = _
      rw [← hwg, ← hwf]
      simp only [heap_setCell_ne _ _ _ _ _ e1, heap_setCell_ne _ _ _ _ _ e2]
      exact h
    rcases hde with rfl | ⟨D, rfl, hD, hge⟩
    · show LeavesInM _ _ _ _ _ _ [] .returning _
      exact ⟨(.tuple #[.agg #[.int .u16 0, .int .u16 0, .int .u32 0, .int .u32 0, .int .u8 0, .int .u16 0, .int .u16 0, .slice none 0 0, .slice none 0 0], .int .i64 E]), by simp [results, Try.results14, go_sem, pf, pg], tcPost_no (below_drew Tg)⟩
    · show LeavesInM _ _ _ _ _ _ _ .returning _
      refine ⟨by simp, .inl ⟨_, _, rfl, run_takeDeferred (hdn D hD), ?_⟩⟩
      have d1 : k + 1 ≠ D := fun e => by subst e; have := S.rd; rw [hD] at this; cases this
      have d2 : k + 1 + 1 ≠ D := fun e => by subst e; have := Eb.rd; rw [hD] at this; cases this
      have pf2 : ∀ j, (wg.drew.putObj D (Obj.deferred none)).cell? ⟨k + 1, j, none⟩ = _ := fun j => (cell_putObj d1 _).trans (pf.1 j)
      have pg2 : ∀ j, (wg.drew.putObj D (Obj.deferred none)).cell? ⟨k + 1 + 1, j, none⟩ = _ := fun j => (cell_putObj d2 _).trans (pg.1 j)
      exact ⟨(.tuple #[.agg #[.int .u16 0, .int .u16 0, .int .u32 0, .int .u32 0, .int .u8 0, .int .u16 0, .int .u16 0, .slice none 0 0, .slice none 0 0], .int .i64 E]), by simp [results, Try.results14, go_sem, pf2, pg2], tcPost_no (below_putObj (below_drew Tg) hge _)⟩
  case first =>
    rcases h with ⟨rfl, h1⟩ | ⟨rfl, h1, h2⟩ | ⟨rfl, h1, h2, h3⟩ | ⟨rfl, h1, h2, h3, h4⟩ | ⟨rfl, h1, h2, h3, h4, h5⟩ | ⟨rfl, h1, h2, h3, h4, h5, h6, h7⟩
    · gi_wp2
      apply wpIn_goto
      have Eg := (E1.set_ 0 (.int .i64 3)).set_ 0 (.int .i64 12)
      exact ⟨rfl, rfl, rfl, rfl, ⟨_, _, _, _, _, _, _, _, _, (S1.far _ (by simp) _).far _ (by simp) _⟩, Eg, (R1.setCell (p := ⟨k + 1 + 1, 0, none⟩) (by simp only []; omega) _).setCell (p := ⟨k + 1 + 1, 0, none⟩) (by simp only []; omega) _, .inl rfl⟩
    · gi_wp2
      apply wpIn_goto
      have Eg := E1.set_ 0 (.int .i64 3)
      exact ⟨rfl, rfl, rfl, rfl, ⟨_, _, _, _, _, _, _, _, _, S1.far _ (by simp) _⟩, Eg, R1.setCell (p := ⟨k + 1 + 1, 0, none⟩) (by simp only []; omega) _, .inl rfl⟩
    · obtain ⟨b, off, rfl, hcs⟩ := x1.rd (by omega)
      have g12 := hcs 12 (by omega)
      have i12 : (12 : Int) < n2 := by omega
      have x0 := bt_lo p.dat 12
      have x255 := bt_hi p.dat 12
      rw [hx] at g12 x0 x255
      have hw1' : IntKind.i64.wrap q = q := by rw [IntKind.wrap_i64]; omega
      have hw2' : IntKind.i64.wrap (hd : Int) = hd := by rw [IntKind.wrap_i64]; omega
      have hand := and_u8_15 x0 x255
      clear hcs hx
      gi_wp2
      apply wpIn_goto
      have Eg := (E1.set_ 0 (.int .i64 3)).set_ 0 (.int .i64 4)
      exact ⟨rfl, rfl, rfl, rfl, ⟨_, _, _, _, _, _, _, _, _, (S1.far _ (by simp) _).far _ (by simp) _⟩, Eg, (R1.setCell (p := ⟨k + 1 + 1, 0, none⟩) (by simp only []; omega) _).setCell (p := ⟨k + 1 + 1, 0, none⟩) (by simp only []; omega) _, .inl rfl⟩
    · obtain ⟨b, off, rfl, hcs⟩ := x1.rd (by omega)
      have g12 := hcs 12 (by omega)
      have i12 : (12 : Int) < n2 := by omega
      have x0 := bt_lo p.dat 12
      have x255 := bt_hi p.dat 12
      rw [hx] at g12 x0 x255
      have hw1' : IntKind.i64.wrap q = q := by rw [IntKind.wrap_i64]; omega
      have hw2' : IntKind.i64.wrap (hd : Int) = hd := by rw [IntKind.wrap_i64]; omega
      have hand := and_u8_15 x0 x255
      clear hcs hx
      gi_wp2
      apply wpIn_goto
      have Eg := (E1.set_ 0 (.int .i64 3)).set_ 0 (.int .i64 4)
      exact ⟨rfl, rfl, rfl, rfl, ⟨_, _, _, _, _, _, _, _, _, (S1.far _ (by simp) _).far _ (by simp) _⟩, Eg, (R1.setCell (p := ⟨k + 1 + 1, 0, none⟩) (by simp only []; omega) _).setCell (p := ⟨k + 1 + 1, 0, none⟩) (by simp only []; omega) _, .inl rfl⟩
    · obtain ⟨b, off, rfl, hcs⟩ := x1.rd (by omega)
      have g12 := hcs 12 (by omega)
      have i12 : (12 : Int) < n2 := by omega
      have x0 := bt_lo p.dat 12
      have x255 := bt_hi p.dat 12
      rw [hx] at g12 x0 x255
      have hw1' : IntKind.i64.wrap q = q := by rw [IntKind.wrap_i64]; omega
      have hw2' : IntKind.i64.wrap (hd : Int) = hd := by rw [IntKind.wrap_i64]; omega
      have hand := and_u8_15 x0 x255
      clear hcs hx
      gi_wp2
      apply wpIn_goto
      have Eg := E1.set_ 0 (.int .i64 3)
      exact ⟨rfl, rfl, rfl, rfl, ⟨_, _, _, _, _, _, _, _, _, S1.far _ (by simp) _⟩, Eg, R1.setCell (p := ⟨k + 1 + 1, 0, none⟩) (by simp only []; omega) _, .inl rfl⟩
    · obtain ⟨b, off, rfl, hcs⟩ := x1.rd (by omega)
      have g12 := hcs 12 (by omega)
      have i12 : (12 : Int) < n2 := by omega
      have x0 := bt_lo p.dat 12
      have x255 := bt_hi p.dat 12
      rw [hx] at g12 x0 x255
      have hw1' : IntKind.i64.wrap q = q := by rw [IntKind.wrap_i64]; omega
      have hw2' : IntKind.i64.wrap (hd : Int) = hd := by rw [IntKind.wrap_i64]; omega
      have hand := and_u8_15 x0 x255
      clear hcs
      obtain ⟨w2, hw2, S2⟩ := store1 E1 0 (.int .i64 3)
      have P2 := S2.other (by omega) P1
      have pc2 := P2.cell
      have SS2 := S2.other (by omega) S1
      have R2 := S2.bel R1 (by omega)
      have x2 := k2.below R2
      have el2 := S2.blk.lt
      have g12b := x2.at_ (j := 12) (by omega)
      rw [hx] at g12b
      clear hx g12
      gi_wp2_with (refine ⟨trivial, ?_⟩; gi_at_call 36; refine (callsIn_wide.2 (fits_any p hp A1 n1 c1 _ n2 c2 6 (by omega) (by omega) w2 x2 h7)).mono ?_; rintro e w3 ⟨he, hB3⟩; (try rw [h6] at he); subst he; have E3 := (S2.blk).below hB3; have ec3 := E3.cell; have el3 := E3.lt)
      apply wpIn_goto
      exact ⟨rfl, rfl, rfl, rfl, ⟨_, _, _, _, _, _, _, _, _, (SS2.below hB3).far _ (by simp) _⟩, E3.set_ 0 (.int .i64 5), (below_then R2 hB3).setCell (p := ⟨k + 1 + 1, 0, none⟩) (by simp only []; omega) _, .inl rfl⟩
end Go.Proofs.Ytjjhnjkmoogloaa

/- An append of a literal inside a fence; the range's law where the round's first step allocates. -/
namespace Go.Proofs.Ytjjhnjkmoogloaa
open Go.RowKit Go.Shelf
set_option linter.unusedVariables false
set_option linter.unusedSimpArgs false

theorem wpListIn_appG {F : Fence} {n₀ : Nat} {P : Program} {ops : Array Oper} {rest : List Oper} {o : Oper} {a : Act} {Q : Exit → Act → World → Prop} {w0 : World} (w : World) (hgd : o.guard = none) (s x : Operand) (t : TypeId) (ho : o.op = .call { callee := .builtin .append, args := #[s, x], argTypes := #[t, t] })
    (base : Nat) (e : TypeId) (i : TypeInfo) (z : Value) (size bytes : Nat) (ht : P.underlying t = some (.slice e)) (hi : P.info? e = some i) (hz : i.zero = some z) (hsize : i.size = size) (hby : i.bytes = bytes) (hzs : z.cells.size = size) (hsz : 0 < size) (hbs : bytes ≤ 64)
    (A : Option Addr) (n c : Nat) (xs : List Value) (hs : a.eval s = .slice A n c) (hown : OwnG w base e size A n c xs) (ad : Addr) (m c2 : Nat) (news : List Value) (hx : a.eval x = .slice (some ad) m c2) (hl : news.length = m * size)
    (hnews : ∀ j u, news[j]? = some u → w.cell? (ad.add j) = some u) (h1 : ∀ u ∈ news, u.oneCell' = true)
    (HB : Below base w0 w) (hmax : n + m ≤ 3000000000000) (hbase : base ≤ w.heap.size)
    (h : ∀ A' c' w', OwnG w' base e size A' (n + m) c' (xs ++ news) → Below base w0 w' → w.grownBy w' (Value.slice A n c).ownBlock → base ≤ w'.heap.size → wpListIn F n₀ P ops Q rest (a.put o.dst (.slice A' (n + m) c')) w') : wpListIn F n₀ P ops Q (o :: rest) a w := by
  refine wpListIn_plain hgd fun K hK' => ?_
  obtain ⟨v', w', hrun, hrow, hg, _⟩ := run_append_own_wide (P := P) w base t o.type e i z size bytes ht hi hz hsize hby hzs hsz (.slice A n c) n xs hown.row ad m c2 news hl hnews h1 (by simp only [maxLen]; omega) (by
      have : ((n + m) + (n + m) / 4 + 192) * bytes ≤ ((n + m) + (n + m) / 4 + 192) * 64 := Nat.mul_le_mul_left _ hbs
      omega) hbase
  have hv : ∃ A' c', v' = .slice A' (n + m) c' := by
    rcases hrow.2 with ⟨hv, h0⟩ | ⟨g, cap, cur, hv, _⟩
    · exact ⟨none, 0, by rw [hv, h0]⟩
    · exact ⟨_, cap, hv⟩
  obtain ⟨A', c', rfl⟩ := hv
  unfold Oper.wpIn
  refine ⟨?_, ?_⟩
  · simp [Oper.about, ho, resolve, Target.leads, Sem.run_pure]
  · rw [Oper.semAt_plain F _ _ (by rw [ho]; intro c hc'; cases hc')]
    simp [execOp, ho, resolve, invoke, builtin, hs, hx, hrun, Result.andThen]
    exact hK' _ _ (h A' c' w' ⟨hrow⟩ (HB.grown hg hbase hown.base_le) hg (Nat.le_trans hbase hg.size))

/-- As range_law; the round's first step may allocate, and what it has done is known (J). -/
theorem range_law2 {α β : Type} {F : Fence} {n : Nat} {P : Program} {g : Operand} {ps : Array Tmp} {assign body : Code} {Q : Exit → Act → World → Prop} {a : Act} {w : World}
    (hro : F.round = none) (h1 : 1 ≤ n) {gf : Nat} {lb : Array Value} (hg : a.eval g = .func (.func gf) #[] lb) (hFg : F.fn gf) (eg : ∀ args w, (callFunc gf args).run P w = .ok (.enter gf args) w)
    (encs : α → Array Value) (hps : ∀ x, (encs x).size = ps.size) (step : β → α → β) (s0 : β) (S : β → Prop)
    (I : β → World → Prop) (Ix : Code → β → World → Prop) (ok : β → α → Prop) (J : β → α → Act → World → Prop)
    (hI : ∀ s W o, o.isCells = false → I s W → I s (W.putObj (w.heap.size + 1) o)) (hIx : ∀ c s W o, o.isCells = false → Ix c s W → Ix c s (W.putObj (w.heap.size + 1) o)) (hJ : ∀ s x a W o, o.isCells = false → J s x a W → J s x a (W.putObj (w.heap.size + 1) o))
    (h0 : ∀ o o', o.isCells = false → o'.isCells = false → I s0 ((w.alloc o).alloc o'))
    (hassign : ∀ (s : β) (x : α) (W : World) (K : Act → World → Prop), ok s x → I s W → w.heap.size + 2 ≤ W.heap.size → (∀ b W', KeepsFrom w.heap.size W W' → J s x b W' → K b W') →
      assign.wpIn (F.inRound (w.heap.size + 1)) (n - 1 - 1) P (Exit.then K (fun _ _ _ => False)) { tmps := (ps.zip (encs x)).foldl (fun t (p, v) => t.setIfInBounds p v) a.tmps, defers := [] } W)
    (hbody : ∀ (s : β) (x : α) (b : Act) (W : World), ok s x → J s x b W → w.heap.size + 2 ≤ W.heap.size → body.wpIn (F.inRound (w.heap.size + 1)) (n - 1 - 1) P (roundEnd w.heap.size I Ix (step s x) W) b W)
    (hiter : ∀ (R : World → Prop) (Rx : Code → World → Prop) (W1 : World), (∀ W W', R W → KeepsFrom w.heap.size W W' → R W') → (∀ W, R W → w.heap.size + 2 ≤ W.heap.size) →
      (∀ s x W, ok s x → I s W → R W → YieldAt F (n - 1 - 1) P (w.heap.size + 1) (encs x) W (roundSaid (step s x) I Ix R Rx)) →
      I s0 W1 → R W1 → w.heap.size + 2 = W1.heap.size → CallsIn F (n - 1) P gf (#[.func (.yield (w.heap.size + 1)) #[] #[]] ++ lb) W1 (iterEnd S I Ix R Rx))
    (hdone : ∀ (s : β) (W : World), S s → I s W → W.heap[w.heap.size]? = some (.deferred (some [])) → Q .normal { a with defers := { target := .collected w.heap.size, args := #[] } :: a.defers } W)
    (hstop : ∀ (c : Code) (s : β) (W : World), Ix c s W → W.heap[w.heap.size]? = some (.deferred (some [])) → c.wpIn F n P Q { a with defers := { target := .collected w.heap.size, args := #[] } :: a.defers } W) :
    (Code.rangeFunc g ps assign body).wpIn F n P Q a w := by
  refine wpIn_rangeFunc fun fn hfn => ?_
  rw [hro]
  obtain ⟨D, hD⟩ : ∃ D, w.heap.size = D := ⟨_, rfl⟩
  obtain ⟨r, hr⟩ : ∃ r : Loop, ({ state := .ready, pending := none, fn, tmps := a.tmps, params := ps, assign, body, defers := D } : Loop) = r := ⟨_, rfl⟩
  have hrun := run_enterLoop_outer (P := P) (w := w) fn a.tmps ps assign body
  rw [hD] at hrun hI hIx hJ hbody hiter hdone hstop hassign
  rw [hr] at hrun
  have hready : ({ r with state := if (none : Option Code).isNone then .ready else .done, pending := none } : Loop) = r := by rw [← hr]; rfl
  obtain ⟨W1, hW1⟩ : ∃ W1, (w.alloc (.deferred (some []))).alloc (.loop r) = W1 := ⟨_, rfl⟩
  have hsz : D + 2 = W1.heap.size := by rw [← hW1, ← hD]; simp
  have hL1 : Loops D r none W1 := by
    refine ⟨?_, ?_⟩
    · rw [hready, ← hW1]
      have := World.alloc_heap_new (w.alloc (.deferred (some []))) (.loop r)
      rwa [World.size_alloc, hD] at this
    · rw [← hW1, ← hD]
      exact (Below.heap_alloc _ _ _ (by simp)).trans (World.alloc_heap_new w _)
  rw [hW1] at hrun
  refine ⟨D + 1, _, W1, { target := .fn (.func gf) lb, args := #[.func (.yield (D + 1)) #[] #[]] }, W1, gf, #[.func (.yield (D + 1)) #[] #[]] ++ lb, W1, hrun, ?_, ?_, ?_, fun _ => h1, ?_⟩
  · simp only [resolve, hg]
    simp [go_sem]
  · intro f' hf'
    simp [Target.leads] at hf'
    subst hf'
    exact hFg
  · simp [invoke, go_sem, eg]
  refine (hiter (Loops D r none) (fun c W => Loops D r (some c) W) W1 (fun W W' h hk => h.keep hk) (fun W h => (Array.getElem?_eq_some_iff.1 h.loop).1) ?_ (by rw [← hW1]; exact h0 _ _ rfl rfl) hL1 hsz).mono ?_
  · intro s x W hok hi hl
    have hl0 := hl.loop
    rw [hready] at hl0
    have hlt : D + 1 < W.heap.size := (Array.getElem?_eq_some_iff.1 hl0).1
    have hpar : r.params = ps := by rw [← hr]
    have hy := run_yield (P := P) (args := encs x) hl0 (by rw [hpar]; exact hps x)
    refine ⟨r.fn, _, r.assign, r.body, hy, ?_⟩
    have e1 : r.fn = fn := by rw [← hr]
    have e2 : r.assign = assign := by rw [← hr]
    have e3 : r.body = body := by rw [← hr]
    have e4 : r.tmps = a.tmps := by rw [← hr]
    rw [e1, e2, e3, hpar, e4]
    refine roundIn_of_wpIn hfn (hassign s x W _ hok hi hlt ?_)
    intro b Wa hka hja
    have hla := hl.keep hka
    have hl0a := hla.loop
    rw [hready] at hl0a
    have hlta : D + 1 < Wa.heap.size := (Array.getElem?_eq_some_iff.1 hl0a).1
    obtain ⟨W2, hW2⟩ : ∃ W2, Wa.putObj (D + 1) (.loop { r with state := .busy }) = W2 := ⟨_, rfl⟩
    have hb2 : W2.heap[D + 1]? = some (.loop { r with state := .busy }) := by rw [← hW2]; exact World.putObj_heap_same hlta
    have hd2 : W2.heap[D]? = some (.deferred (some [])) := by rw [← hW2]; exact (World.putObj_heap_other (by omega)).trans hla.defers
    have hs2 : D + 2 ≤ W2.heap.size := (Array.getElem?_eq_some_iff.1 hb2).1
    have hj2 : J s x b W2 := by rw [← hW2]; exact hJ _ _ _ _ _ rfl hja
    have hend : ∀ (j : Option Code) (W3 : World), KeepsFrom D W2 W3 → (Instr.endRound (D + 1) j).run P W3 = .ok (.bool j.isNone) (W3.putObj (D + 1) (.loop { r with state := if j.isNone then .ready else .done, pending := j })) ∧ Loops D r j (W3.putObj (D + 1) (.loop { r with state := if j.isNone then .ready else .done, pending := j })) := by
      intro j W3 hk
      have hb3 := hk.same _ _ (by omega) hb2 rfl
      have hd3 := hk.same _ _ (Nat.le_refl _) hd2 rfl
      have he := run_endRound (P := P) j hb3
      exact ⟨he, World.putObj_heap_same (Array.getElem?_eq_some_iff.1 hb3).1, (World.putObj_heap_other (by omega)).trans hd3⟩
    refine ⟨W2, by rw [← hW2]; exact run_beginRound hl0a (by rw [← hr]), ?_⟩
    refine wpIn_mono (hbody s x b W2 hok hj2 hs2) ?_
    intro e a3 W3 hp
    cases e with
    | normal =>
      obtain ⟨hk, hi3⟩ := hp
      obtain ⟨hr3, hl3⟩ := hend none W3 hk
      exact ⟨_, _, hr3, .inl ⟨rfl, hI _ _ _ rfl hi3, hl3⟩⟩
    | ret =>
      obtain ⟨hk, hi3⟩ := hp
      obtain ⟨hr3, hl3⟩ := hend (some .ret) W3 hk
      exact ⟨_, _, hr3, .inr ⟨rfl, .ret, hIx _ _ _ _ rfl hi3, hl3⟩⟩
    | exit id =>
      obtain ⟨hk, hi3⟩ := hp
      obtain ⟨hr3, hl3⟩ := hend (some (.exit id)) W3 hk
      exact ⟨_, _, hr3, .inr ⟨rfl, .exit id, hIx _ _ _ _ rfl hi3, hl3⟩⟩
    | goto t =>
      obtain ⟨hk, hi3⟩ := hp
      obtain ⟨hr3, hl3⟩ := hend (some (.goto t)) W3 hk
      exact ⟨_, _, hr3, .inr ⟨rfl, .goto t, hIx _ _ _ _ rfl hi3, hl3⟩⟩
    | panic ch => exact hp.elim
    | outgrown => exact hp.elim
  · rintro e W2 ⟨⟨v, rfl⟩, ⟨s, hS, hi, hl⟩ | ⟨c, s, hi, hl⟩⟩
    · have h2 := run_endLoop (P := P) hl.loop (by simp)
      exact ⟨none, _, h2, hdone s _ hS (hI _ _ _ rfl hi) ((World.putObj_heap_other (by omega)).trans hl.defers)⟩
    · have h2 := run_endLoop (P := P) hl.loop (by simp)
      exact ⟨some c, _, h2, hstop c s _ (hIx _ _ _ _ rfl hi) ((World.putObj_heap_other (by omega)).trans hl.defers)⟩
end Go.Proofs.Ytjjhnjkmoogloaa

/- Blocks in which no row of bytes and none of options lies: writes there change no row. -/
namespace Go.Proofs.Ytjjhnjkmoogloaa
open Go.RowKit Go.Shelf
set_option linter.unusedVariables false
set_option linter.unusedSimpArgs false
set_option maxHeartbeats 1000000

/-- Block j is none of cells of type e. -/
def NotOf (e : TypeId) (W : World) (j : Nat) : Prop := ∀ o, W.heap[j]? = some o → ∀ cur f, o ≠ .cells cur e f
theorem Own.apart {w w' : World} {base : Nat} {e : TypeId} {A : Option Addr} {n c : Nat} {l : List UInt8} {row : Option Nat} (h : Own w base e A n c l) (hg : w.grownBy w' row) (hr : ∀ j, row = some j → NotOf e w j) : Own w' base e A n c l :=
  h.kept hg (by
    rcases h.row.2 with ⟨hv, _⟩ | ⟨g, cap, cur, hv, _, hg2, _⟩
    · rw [hv]; exact .inl rfl
    · injection hv with h1 h2 h3
      subst h1 h3
      refine .inr fun he => ?_
      simp only [Value.ownBlock] at he
      exact hr g he.symm _ hg2 _ _ rfl)
theorem OwnG.apart {w w' : World} {base : Nat} {e : TypeId} {s : Nat} {A : Option Addr} {n c : Nat} {xs : List Value} {row : Option Nat} (h : OwnG w base e s A n c xs) (hg : w.grownBy w' row) (hr : ∀ j, row = some j → NotOf e w j) : OwnG w' base e s A n c xs :=
  h.kept hg (by
    rcases h.row.2 with ⟨hv, _⟩ | ⟨g, cap, cur, hv, _, hg2, _⟩
    · rw [hv]; exact .inl rfl
    · injection hv with h1 h2 h3
      subst h1 h3
      refine .inr fun he => ?_
      simp only [Value.ownBlock] at he
      exact hr g he.symm _ hg2 _ _ rfl)
theorem OsO.apart {w w' : World} {base : Nat} {A : Option Addr} {n c : Nat} {os : List Opt} {row : Option Nat} (h : OsO w base A n c os) (hg : w.grownBy w' row) (hr : ∀ j, row = some j → NotOf 5 w j ∧ NotOf 66 w j) : OsO w' base A n c os := by
  obtain ⟨xs, hx, hj⟩ := h.own
  refine ⟨h.len, xs, hx.apart hg (fun j e => (hr j e).2), fun j hjn => ?_⟩
  obtain ⟨h1, B, m, d, h2, h3⟩ := hj j hjn
  exact ⟨h1, B, m, d, h2, h3.apart hg (fun j e => (hr j e).1)⟩
theorem Blk.notOf {w : World} {k : Nat} {cs : Array Value} {t : TypeId} (h : Blk w k cs t) {e : TypeId} (he : t ≠ e) : NotOf e w k := by
  intro o ho cur f e2
  rw [h.rd] at ho
  subst e2
  simp only [Option.some.injEq, Obj.cells.injEq] at ho
  exact he ho.2.1
theorem Blk.kept {w w' : World} {k : Nat} {cs : Array Value} {t : TypeId} {row : Option Nat} (h : Blk w k cs t) (hg : w.grownBy w' row) (hr : row ≠ some k) : Blk w' k cs t :=
  ⟨(hg.block k h.lt (Ne.symm hr)).trans h.rd⟩
theorem OwnG.ne_blk {w : World} {base : Nat} {e : TypeId} {s : Nat} {A : Option Addr} {n c : Nat} {xs : List Value} (h : OwnG w base e s A n c xs) {k : Nat} {cs : Array Value} {t : TypeId} (b : Blk w k cs t) (he : t ≠ e) : (Value.slice A n c).ownBlock ≠ some k := by
  rcases h.row.2 with ⟨hv, _⟩ | ⟨g, cap, cur, hv, _, hg, _⟩
  · rw [hv]; simp [Value.ownBlock]
  · injection hv with h1 h2 h3
    subst h1 h3
    simp only [Value.ownBlock, ne_eq, Option.some.injEq]
    intro e2
    subst e2
    exact b.notOf he _ hg _ _ rfl
theorem OwnG.cells {w : World} {base : Nat} {e : TypeId} {s : Nat} {A : Option Addr} {n c : Nat} {xs : List Value} (h : OwnG w base e s A n c xs) : ∀ (j : Nat) (o : Obj), (Value.slice A n c).ownBlock = some j → w.heap[j]? = some o → o.isCells = true := by
  intro j o hj ho
  rcases h.row.2 with ⟨hv, _⟩ | ⟨g, cap, cur, hv, _, hg, _⟩
  · rw [hv] at hj; simp [Value.ownBlock] at hj
  · injection hv with h1 h2 h3
    subst h1 h3
    simp only [Value.ownBlock, Option.some.injEq] at hj
    subst hj
    rw [hg] at ho
    simp only [Option.some.injEq] at ho
    subst ho
    rfl
/-- An object that is none of cells. -/
def NoCells (W : World) (j : Nat) : Prop := ∃ o, W.heap[j]? = some o ∧ o.isCells = false
theorem NoCells.notOf {W : World} {j : Nat} (h : NoCells W j) (e : TypeId) : NotOf e W j := by
  obtain ⟨o, ho, hc⟩ := h
  intro o' ho' cur f e2
  rw [ho] at ho'
  simp only [Option.some.injEq] at ho'
  subst ho' e2
  simp [Obj.isCells] at hc
theorem NoCells.lt {W : World} {j : Nat} (h : NoCells W j) : j < W.heap.size := by
  obtain ⟨o, ho, _⟩ := h
  exact (Array.getElem?_eq_some_iff.1 ho).1
theorem NoCells.below {W W' : World} {j : Nat} (h : NoCells W j) (hb : Below W.heap.size W W') : NoCells W' j := by
  have hl := h.lt
  obtain ⟨o, ho, hc⟩ := h
  exact ⟨o, (hb.block j hl).trans ho, hc⟩
theorem NoCells.set {W : World} {j : Nat} (h : NoCells W j) (p : Addr) (v : Value) : NoCells (W.setCell p v) j := by
  obtain ⟨o, ho, hc⟩ := h
  refine ⟨o, ?_, hc⟩
  simp only [World.setCell, Array.getElem?_modify, ho, Option.map_some]
  split
  · cases o <;> simp_all [Obj.isCells]
  · rfl
theorem NoCells.put {W : World} {j : Nat} (h : NoCells W j) (l : Nat) (o' : Obj) (ho' : o'.isCells = false) : NoCells (W.putObj l o') j := by
  have hl := h.lt
  by_cases e : j = l
  · subst e
    exact ⟨o', World.putObj_heap_same hl, ho'⟩
  · obtain ⟨o, ho, hc⟩ := h
    exact ⟨o, (World.putObj_heap_other e).trans ho, hc⟩
theorem NoCells.kept {W W' : World} {j : Nat} {row : Option Nat} (h : NoCells W j) (hg : W.grownBy W' row) (hr : ∀ (j : Nat) (o : Obj), row = some j → W.heap[j]? = some o → o.isCells = true) : NoCells W' j := by
  have hl := h.lt
  obtain ⟨o, ho, hc⟩ := h
  refine ⟨o, (hg.block j hl (fun e => ?_)).trans ho, hc⟩
  rw [hr j o e.symm ho] at hc
  cases hc
theorem Blk.put {W : World} {k : Nat} {cs : Array Value} {t : TypeId} (h : Blk W k cs t) {l : Nat} (hn : NoCells W l) (o' : Obj) : Blk (W.putObj l o') k cs t := by
  refine ⟨(World.putObj_heap_other fun e => ?_).trans h.rd⟩
  subst e
  obtain ⟨o, ho, hc⟩ := hn
  rw [h.rd] at ho
  simp only [Option.some.injEq] at ho
  subst ho
  simp [Obj.isCells] at hc
theorem new2 (w : World) (x y : Value) (t : TypeId) : ∀ (q : Nat) u, [x, y][q]? = some u → (w.alloc (.cells #[x, y] t)).cell? ((⟨w.heap.size, 0, none⟩ : Addr).add q) = some u := by
  intro q u h
  have h1 := (blk_new w #[x, y] t _ rfl).cell.1 q
  have h2 : (⟨w.heap.size, 0, none⟩ : Addr).add q = ⟨w.heap.size, q, none⟩ := by cases q <;> simp [Addr.add]
  rw [h2, h1]
  simpa using h
theorem info_opt : (Try.prog.info? 66).map (fun i => (i.zero, i.size, i.bytes)) = some (some (.agg #[.int .u8 0, .slice none 0 0]), 2, 32) := by kernel_rfl
end Go.Proofs.Ytjjhnjkmoogloaa

/- A packet's segment, parsed by the program: its options, and what stands behind them. -/
namespace Go.Proofs.Ytjjhnjkmoogloaa
open Go.RowKit Go.Shelf
attribute [local go_sem] Oper.semAt_some jump_normal jump_exit jump_ret jump_panic jump_goto
set_option linter.unusedVariables false
set_option linter.unusedSimpArgs false
set_option linter.unusedSimpArgs false
set_option maxHeartbeats 8000000
set_option maxRecDepth 100000

theorem store0123 {W : World} {r : Nat} {c0 c1 c2 c3 c4 c5 c6 c7 c8 : Value} {t : TypeId} (R : Blk W r #[c0, c1, c2, c3, c4, c5, c6, c7, c8] t) (v0 v1 v2 v3 : Value) :
    ∃ wf, ((((W.setCell ⟨r, 0, none⟩ v0).setCell ⟨r, 1, none⟩ v1).setCell ⟨r, 2, none⟩ v2).setCell ⟨r, 3, none⟩ v3) = wf ∧ Sto W r wf #[v0, v1, v2, v3, c4, c5, c6, c7, c8] t := by
  have h := ((((Sto.nil R).set 0 v0).set 1 v1).set 2 v2).set 3 v3
  simp only [List.setIfInBounds_toArray, List.set_cons_zero, List.set_cons_succ] at h
  exact ⟨_, rfl, h⟩
theorem store4568 {W : World} {r : Nat} {c0 c1 c2 c3 c4 c5 c6 c7 c8 : Value} {t : TypeId} (R : Blk W r #[c0, c1, c2, c3, c4, c5, c6, c7, c8] t) (v4 v5 v6 v8 : Value) :
    ∃ wf, ((((W.setCell ⟨r, 4, none⟩ v4).setCell ⟨r, 5, none⟩ v5).setCell ⟨r, 6, none⟩ v6).setCell ⟨r, 8, none⟩ v8) = wf ∧ Sto W r wf #[c0, c1, c2, c3, v4, v5, v6, c7, v8] t := by
  have h := ((((Sto.nil R).set 4 v4).set 5 v5).set 6 v6).set 8 v8
  simp only [List.setIfInBounds_toArray, List.set_cons_zero, List.set_cons_succ] at h
  exact ⟨_, rfl, h⟩
theorem optsK_len : ∀ (k : Nat) (l : List UInt8) (os : List Opt), optsK k l = some os → os.length ≤ l.length
  | 0, l, os, h => by cases h
  | k + 1, l, os, h => by
    unfold optsK at h
    cases hx : nx l with
    | none => rw [hx] at h; cases h
    | some x =>
      cases x with
      | none =>
        rw [hx] at h
        simp only [Option.some.injEq] at h
        subst h
        simp
      | some y =>
        obtain ⟨o, n⟩ := y
        rw [hx] at h
        simp only [Option.map_eq_some_iff] at h
        obtain ⟨r, hr, rfl⟩ := h
        have := optsK_len k _ r hr
        have := nx_some hx
        simp only [List.length_drop, List.length_cons] at *
        omega
theorem optsP_len {l : List UInt8} {os : List Opt} (h : optsP l = some os) : os.length ≤ l.length := optsK_len _ l os h
theorem split_any (A : Option Addr) (n c : Nat) (w : World) :
    Calls Try.prog 37 #[.slice A n c] w fun e w' => e = .returned (.func (.func 69) #[] #[.pointer (some ⟨w.heap.size, 0, none⟩)]) ∧ w' = w.alloc (.cells #[.slice A n c] 24) := by
  have hmf : ∀ (fn : Fn) (first cap : Array Value) (w : World), (Instr.makeFunc fn first cap).run Try.prog w = .ok (.func fn first cap) w := fun _ _ _ _ => rfl
  go_enter Try.func37, Try.ntmps37
  go_wp2
  go_ret
  exact ⟨rfl, rfl⟩
/-- Options of the call's own, and a block that is none of their rows. -/
structure SO (W : World) (base r : Nat) (t : TypeId) (A : Option Addr) (n c : Nat) (os : List Opt) : Prop where
  o : OsO W base A n c os
  b : ∃ cs, Blk W r cs t
theorem SO.set {W : World} {base r : Nat} {t : TypeId} {A : Option Addr} {n c : Nat} {os : List Opt} (h : SO W base r t A n c os) (h1 : t ≠ 5) (h2 : t ≠ 66) (j : Nat) (v : Value) : SO (W.setCell ⟨r, j, none⟩ v) base r t A n c os := by
  obtain ⟨h3, cs, h4⟩ := h
  exact ⟨h3.apart (grownBy_setCell _ _ _) (fun j e => by cases e; exact ⟨h4.notOf h1, h4.notOf h2⟩), _, h4.set_ j v⟩
theorem SO.below {W W' : World} {base r : Nat} {t : TypeId} {A : Option Addr} {n c : Nat} {os : List Opt} (h : SO W base r t A n c os) (hb : Below W.heap.size W W') : SO W' base r t A n c os := by
  obtain ⟨h3, cs, h4⟩ := h
  exact ⟨h3.below hb, cs, h4.below hb⟩
structure TcC (w : World) (k kB D : Nat) (os : List Opt) (W : World) : Prop where
  s : ∃ OA oc, Blk W (k + 1) #[.int .u16 0, .int .u16 0, .int .u32 0, .int .u32 0, .int .u8 0, .int .u16 0, .int .u16 0, .slice OA os.length oc, .slice none 0 0] 29 ∧ OsO W w.heap.size OA os.length oc os
  e : Blk W (k + 1 + 1) #[.int .i64 3] 30
  b : ∃ v, Blk W kB #[v] 24
  d : NoCells W (D + 1)
theorem TcC.below {w : World} {k kB D : Nat} {os : List Opt} {W W' : World} (h : TcC w k kB D os W) (hb : Below W.heap.size W W') : TcC w k kB D os W' := by
  obtain ⟨⟨OA, oc, h1, h2⟩, h3, ⟨v, h4⟩, h5⟩ := h
  exact ⟨⟨OA, oc, h1.below hb, h2.below hb⟩, h3.below hb, ⟨v, h4.below hb⟩, h5.below hb⟩
theorem TcC.setB {w : World} {k kB D : Nat} {os : List Opt} {W : World} (h : TcC w k kB D os W) (h1 : kB ≠ k + 1) (h2 : kB ≠ k + 1 + 1) (u : Value) : TcC w k kB D os (W.setCell ⟨kB, 0, none⟩ u) := by
  have hT : 24 ≠ 5 ∧ 24 ≠ 66 := by decide
  obtain ⟨⟨OA, oc, k1, k2⟩, k3, ⟨v, k4⟩, k5⟩ := h
  exact ⟨⟨OA, oc, k1.far _ h1 _, k2.apart (grownBy_setCell _ _ _) (fun j e => by cases e; exact ⟨k4.notOf hT.1, k4.notOf hT.2⟩)⟩, k3.far _ h2 _, ⟨_, k4.set_ 0 u⟩, k5.set _ _⟩
theorem TcC.put {w : World} {k kB D : Nat} {os : List Opt} {W : World} (h : TcC w k kB D os W) (o : Obj) (ho : o.isCells = false) : TcC w k kB D os (W.putObj (D + 1) o) := by
  obtain ⟨⟨OA, oc, k1, k2⟩, k3, ⟨v, k4⟩, k5⟩ := h
  exact ⟨⟨OA, oc, k1.put k5 o, k2.apart (grownBy_putObj' _ _ _) (fun j e => by cases e; exact ⟨k5.notOf _, k5.notOf _⟩)⟩, k3.put k5 o, ⟨v, k4.put k5 o⟩, k5.put _ _ ho⟩
structure TcIx (w : World) (k : Nat) (l : List UInt8) (c : Code) (s : SpS) (W : World) : Prop where
  c : c = .goto 0
  bad : s.bad = true
  no : optsP l = none
  s : ∃ c0 c1 c2 c3 c4 c5 c6 c7 c8, Blk W (k + 1) #[c0, c1, c2, c3, c4, c5, c6, c7, c8] 29
  e : Blk W (k + 1 + 1) #[.int .i64 4] 30
  bel : Below w.heap.size w W
/-- Behind the round's first step. -/
structure TcR (w : World) (k kB D : Nat) (s : SpS) (x : SpX) (b : Act) (W : World) : Prop where
  size : b.tmps.size = 87
  t2 : b.tmps[2]? = some (.pointer (some ⟨k + 1, 0, none⟩))
  t3 : b.tmps[3]? = some (.pointer (some ⟨k + 1 + 1, 0, none⟩))
  q : ∃ q, b.tmps[6]? = some (.pointer (some ⟨q, 0, none⟩)) ∧ Blk W q #[.int .u8 x.o.kind, .slice x.A x.n x.c] 66 ∧ q ≠ k + 1 ∧ q ≠ k + 1 + 1
  t7 : b.tmps[7]? = some (.bool x.ok)
  de : b.defers = []
  i : SplI w kB (TcC w k kB D) s W
theorem splI_put {w : World} {k kB D : Nat} {s : SpS} {W : World} (h : SplI w kB (TcC w k kB D) s W) (o : Obj) (ho : o.isCells = false) (hD : w.heap.size ≤ D + 1) (hB : kB ≠ D + 1) : SplI w kB (TcC w k kB D) s (W.putObj (D + 1) o) := by
  obtain ⟨h1, h2, h3, h4, h5, h6⟩ := h
  exact ⟨h1.put o ho, by rw [cell_putObj (by simpa using hB)]; exact h2, by rw [frozen_putObj (by simpa using hB)]; exact h3, below_putObj h4 hD _, h5, fun x hx hok => (h6 x hx hok).apart (grownBy_putObj' _ _ _) (fun j e => by cases e; exact h1.d.notOf _)⟩
theorem tcp_go (p : Pkt) (hp : p.Ok) (A1 : Option Addr) (n1 c1 : Nat) (A2 : Option Addr) (n2 c2 : Nat) (w : World) (k2 : Bs w A2 n2 c2 p.dat) (x q : Int) (hd : Nat) (hx : bt p.dat 12 = x) (hq : x / 16 = q) (hh : q * 4 = (hd : Int))
    (h1 : (p.proto != 6) = false) (h2 : 20 ≤ (n2 : Int)) (h3 : 20 ≤ (hd : Int)) (h4 : (x % 16 != 0) = false) (h5 : (hd : Int) ≤ (n2 : Int)) (h6 : (psum p 6 p.dat == 0) = true) (h7 : n2 ≤ 140737488400000)
    (T : Ending → World → Prop) (HN : Hid (optsP ((p.dat.take hd).drop 20) = none → ∀ e w', TcPost w zS 4 e w' → T e w'))
    (HY : Hid (∀ os, optsP ((p.dat.take hd).drop 20) = some os → ∀ e w', TcPost w ⟨get16 p.dat 0, get16 p.dat 2, get32 p.dat 4, get32 p.dat 8, bt p.dat 13, get16 p.dat 14, get16 p.dat 18, os, p.dat.drop hd⟩ 0 e w' → T e w')) :
    Calls Try.prog 14 #[(.agg #[.int .u8 (p).tos, .int .u16 (p).id, .bool (p).keep, .int .u8 (p).ttl, .int .u8 (p).proto, .int .u32 (p).src, .int .u32 (p).dst, .slice A1 n1 c1, .slice A2 n2 c2])] w T := by
  obtain ⟨i8, hi8, -, hs8, -⟩ := info_parts info_u8
  have b2 := k2.max
  have hcap := k2.cap
  obtain ⟨k, hk⟩ : ∃ k : Nat, w.heap.size = k := ⟨_, rfl⟩
  obtain ⟨w1, hw1⟩ : ∃ W, (((w.alloc (.cells #[.int .u8 (p).tos, .int .u16 (p).id, .bool (p).keep, .int .u8 (p).ttl, .int .u8 (p).proto, .int .u32 (p).src, .int .u32 (p).dst, .slice A1 n1 c1, .slice A2 n2 c2] 26)).alloc (.cells #[.int .u16 0, .int .u16 0, .int .u32 0, .int .u32 0, .int .u8 0, .int .u16 0, .int .u16 0, .slice none 0 0, .slice none 0 0] 29)).alloc (.cells #[.int .i64 0] 30)) = W := ⟨_, rfl⟩
  have P1 : Blk w1 k #[.int .u8 (p).tos, .int .u16 (p).id, .bool (p).keep, .int .u8 (p).ttl, .int .u8 (p).proto, .int .u32 (p).src, .int .u32 (p).dst, .slice A1 n1 c1, .slice A2 n2 c2] 26 := by rw [← hw1]; exact (((blk_new _ _ _ k (by simp [hk])).alloc _).alloc _)
  have S1 : Blk w1 (k + 1) #[.int .u16 0, .int .u16 0, .int .u32 0, .int .u32 0, .int .u8 0, .int .u16 0, .int .u16 0, .slice none 0 0, .slice none 0 0] 29 := by rw [← hw1]; exact ((blk_new _ _ _ (k + 1) (by simp [hk])).alloc _)
  have E1 : Blk w1 (k + 1 + 1) #[.int .i64 0] 30 := by rw [← hw1]; exact (blk_new _ _ _ (k + 1 + 1) (by simp [hk]))
  have R1 : Below w.heap.size w w1 := by rw [← hw1]; (repeat (first | with_reducible exact Below.refl _ _ | with_reducible refine below_drew ?_ | with_reducible refine below_drewN ?_ _ | with_reducible refine below_alloc ?_ (Nat.le_refl _) _ | with_reducible refine Below.setCell ?_ (by first | exact Nat.le_refl _ | (simp only []; omega)) _ | with_reducible assumption))
  have Pc1 := P1.cell
  have Sc1 := S1.cell
  have Ec1 := E1.cell
  have Pl1 := P1.lt
  have Sl1 := S1.lt
  have El1 := E1.lt
  have x1 := (k2).below R1
  obtain ⟨b, off, rfl, hcs⟩ := x1.rd (by omega)
  have g12 := hcs 12 (by omega)
  have i12 : (12 : Int) < n2 := by omega
  have x0 := bt_lo p.dat 12
  have x255 := bt_hi p.dat 12
  rw [hx] at g12 x0 x255
  have hw1' : IntKind.i64.wrap q = q := by rw [IntKind.wrap_i64]; omega
  have hw2' : IntKind.i64.wrap (hd : Int) = hd := by rw [IntKind.wrap_i64]; omega
  have hand := and_u8_15 x0 x255
  clear hcs
  have hcut : ∀ W, (Instr.slice 24 (.slice (some ⟨b, off, none⟩) n2 c2) (some (.int .i64 20)) (some (.int .i64 (hd : Int))) none).run Try.prog W = _ := fun W => cut_lh Try.underlying24 hi8 hs8 (some ⟨b, off, none⟩) n2 c2 .i64 .i64 20 (hd : Int) (by omega) (by omega) (by omega) W
  obtain ⟨A', n', c', eA, en, ec, hbO⟩ := k2.cutE (lo := 20) (hi := hd) (by omega) (by omega)
  simp only [show (20 : Int).toNat = 20 from rfl, Int.toNat_natCast, eA, en, ec] at hcut
  have hn' : n' ≤ 40 := by omega
  obtain ⟨l, hl⟩ : ∃ l, (p.dat.take hd).drop 20 = l := ⟨_, rfl⟩
  rw [hl] at hbO HN HY
  clear eA en ec hl
  obtain ⟨v0, hv0⟩ : ∃ v, get16 p.dat 0 = v := ⟨_, rfl⟩
  have g0 : ∀ W, Bs W (some ⟨b, off, none⟩) n2 c2 p.dat → Calls Try.prog 38 #[.slice (some ⟨b, off, none⟩) n2 c2, .int .i64 0] W fun e w' => e = .returned (.int .u16 v0) ∧ Drawn W w' := fun W k => by have := get16_any (some ⟨b, off, none⟩) n2 c2 p.dat 0 W k; rw [hv0] at this; exact this
  rw [hv0] at HY
  clear hv0
  obtain ⟨v2, hv2⟩ : ∃ v, get16 p.dat 2 = v := ⟨_, rfl⟩
  have g2 : ∀ W, Bs W (some ⟨b, off, none⟩) n2 c2 p.dat → Calls Try.prog 38 #[.slice (some ⟨b, off, none⟩) n2 c2, .int .i64 2] W fun e w' => e = .returned (.int .u16 v2) ∧ Drawn W w' := fun W k => by have := get16_any (some ⟨b, off, none⟩) n2 c2 p.dat 2 W k; rw [hv2] at this; exact this
  rw [hv2] at HY
  clear hv2
  obtain ⟨v4, hv4⟩ : ∃ v, get32 p.dat 4 = v := ⟨_, rfl⟩
  have g4 : ∀ W, Bs W (some ⟨b, off, none⟩) n2 c2 p.dat → Calls Try.prog 39 #[.slice (some ⟨b, off, none⟩) n2 c2, .int .i64 4] W fun e w' => e = .returned (.int .u32 v4) ∧ Drawn W w' := fun W k => by have := get32_any (some ⟨b, off, none⟩) n2 c2 p.dat 4 W k; rw [hv4] at this; exact this
  rw [hv4] at HY
  clear hv4
  obtain ⟨v8, hv8⟩ : ∃ v, get32 p.dat 8 = v := ⟨_, rfl⟩
  have g8 : ∀ W, Bs W (some ⟨b, off, none⟩) n2 c2 p.dat → Calls Try.prog 39 #[.slice (some ⟨b, off, none⟩) n2 c2, .int .i64 8] W fun e w' => e = .returned (.int .u32 v8) ∧ Drawn W w' := fun W k => by have := get32_any (some ⟨b, off, none⟩) n2 c2 p.dat 8 W k; rw [hv8] at this; exact this
  rw [hv8] at HY
  clear hv8
  obtain ⟨v14, hv14⟩ : ∃ v, get16 p.dat 14 = v := ⟨_, rfl⟩
  have g14 : ∀ W, Bs W (some ⟨b, off, none⟩) n2 c2 p.dat → Calls Try.prog 38 #[.slice (some ⟨b, off, none⟩) n2 c2, .int .i64 14] W fun e w' => e = .returned (.int .u16 v14) ∧ Drawn W w' := fun W k => by have := get16_any (some ⟨b, off, none⟩) n2 c2 p.dat 14 W k; rw [hv14] at this; exact this
  rw [hv14] at HY
  clear hv14
  obtain ⟨v18, hv18⟩ : ∃ v, get16 p.dat 18 = v := ⟨_, rfl⟩
  have g18 : ∀ W, Bs W (some ⟨b, off, none⟩) n2 c2 p.dat → Calls Try.prog 38 #[.slice (some ⟨b, off, none⟩) n2 c2, .int .i64 18] W fun e w' => e = .returned (.int .u16 v18) ∧ Drawn W w' := fun W k => by have := get16_any (some ⟨b, off, none⟩) n2 c2 p.dat 18 W k; rw [hv18] at this; exact this
  rw [hv18] at HY
  clear hv18
  obtain ⟨v13, hv13⟩ : ∃ v, bt p.dat 13 = v := ⟨_, rfl⟩
  have g13 := fun W (k : Bs W (some ⟨b, off, none⟩) n2 c2 p.dat) => k.at_ (j := 13) (by omega)
  rw [hv13] at g13 HY
  clear hv13
  have hcutD : ∀ W, (Instr.slice 24 (.slice (some ⟨b, off, none⟩) n2 c2) (some (.int .i64 (hd : Int))) none none).run Try.prog W = _ := fun W => cut_l Try.underlying24 hi8 hs8 (some ⟨b, off, none⟩) n2 c2 .i64 (hd : Int) (by omega) (by omega) W
  obtain ⟨AD, nD, cD, eA, en, ec, hbD⟩ := k2.cutE (lo := hd) (hi := n2) (by omega) (Nat.le_refl _)
  simp only [Int.toNat_natCast, eA, en, ec] at hcutD
  rw [List.take_of_length_le (by rw [k2.len]; exact Nat.le_refl _)] at hbD
  clear eA en ec
  refine (callsIn_wide (n := 3)).1 ?_
  refine callsIn_of_wp_marks Try.func14 rfl trivial ?_ rfl
  simp only [Try.ntmps14, List.size_toArray, List.length_cons, List.length_nil, Nat.reduceAdd, Nat.reduceSub, Array.replicate_succ, Array.replicate_zero, List.push_toArray, List.append_toArray, List.nil_append, List.cons_append]
  gi_wp2
  refine wpIn_scope_fwd 0 (fun a W => TcJ w k 4 a W ∧ optsP l = none) rfl ?first ?pass
  case pass =>
    rintro a W ⟨⟨hs, h2, h3, ⟨d0, d1, d2, d3, d4, d5, d6, d7, d8, S⟩, Eb, hB, hde⟩, hno⟩
    have HNO := Lib.hid hno
    clear hno
    obtain ⟨f, hf, hfv⟩ := slots hs
    have f2 := hfv 2 _ (by omega) h2
    have f3 := hfv 3 _ (by omega) h3
    obtain ⟨tm, df⟩ := a
    simp only at hf hde
    subst hf
    have sc := S.cell
    have ec := Eb.cell
    simp only [List.range, List.range.loop, List.map_cons, List.map_nil, f2, f3]
    have sl := S.lt
    have el := Eb.lt
    gi_wp2_with gi_region
    obtain ⟨wf, hwf, Sf⟩ := store9 S (.int .u16 0) (.int .u16 0) (.int .u32 0) (.int .u32 0) (.int .u8 0) (.int .u16 0) (.int .u16 0) (.slice none 0 0) (.slice none 0 0)
    rw [hwf]
    have Ef := Sf.other (k := k + 1 + 1) (by omega) Eb
    obtain ⟨wg, hwg, Sg⟩ := store1 Ef 0 (.int .i64 4)
    rw [hwg, Exit.noGoto_ret]
    have Sz := Sg.other (k := k + 1) (by omega) Sf.blk
    have pf := (Sz.drew).cell
    have pg := (Sg.blk.drew).cell
    have Tg := Sg.bel (Sf.bel hB (by omega)) (by omega)
    have hdn : ∀ D : Nat, W.heap[D]? = some (Obj.deferred (some [])) → wg.drew.heap[D]? = some (Obj.deferred (some [])) := fun D h => by
      have e1 : k + 1 ≠ D := fun e => by subst e; have := S.rd; rw [h] at this; cases this
      have e2 : k + 1 + 1 ≠ D := fun e => by subst e; have := Eb.rd; rw [h] at this; cases this
      show wg.heap[D]? = _
      rw [← hwg, ← hwf]
      simp only [heap_setCell_ne _ _ _ _ _ e1, heap_setCell_ne _ _ _ _ _ e2]
      exact h
    rcases hde with rfl | ⟨D, rfl, hD, hge⟩
    · show LeavesInM _ _ _ _ _ _ [] .returning _
      exact ⟨(.tuple #[.agg #[.int .u16 0, .int .u16 0, .int .u32 0, .int .u32 0, .int .u8 0, .int .u16 0, .int .u16 0, .slice none 0 0, .slice none 0 0], .int .i64 4]), by simp [results, Try.results14, go_sem, pf, pg], HN.out HNO.out _ _ (tcPost_no (below_drew Tg))⟩
    · show LeavesInM _ _ _ _ _ _ _ .returning _
      refine ⟨by simp, .inl ⟨_, _, rfl, run_takeDeferred (hdn D hD), ?_⟩⟩
      have d1 : k + 1 ≠ D := fun e => by subst e; have := S.rd; rw [hD] at this; cases this
      have d2 : k + 1 + 1 ≠ D := fun e => by subst e; have := Eb.rd; rw [hD] at this; cases this
      have pf2 : ∀ j, (wg.drew.putObj D (Obj.deferred none)).cell? ⟨k + 1, j, none⟩ = _ := fun j => (cell_putObj d1 _).trans (pf.1 j)
      have pg2 : ∀ j, (wg.drew.putObj D (Obj.deferred none)).cell? ⟨k + 1 + 1, j, none⟩ = _ := fun j => (cell_putObj d2 _).trans (pg.1 j)
      exact ⟨(.tuple #[.agg #[.int .u16 0, .int .u16 0, .int .u32 0, .int .u32 0, .int .u8 0, .int .u16 0, .int .u16 0, .slice none 0 0, .slice none 0 0], .int .i64 4]), by simp [results, Try.results14, go_sem, pf2, pg2], HN.out HNO.out _ _ (tcPost_no (below_putObj (below_drew Tg) hge _))⟩
  case first =>
    obtain ⟨w2, hw2, S2⟩ := store1 E1 0 (.int .i64 3)
    have P2 := S2.other (by omega) P1
    have pc2 := P2.cell
    have SS2 := S2.other (by omega) S1
    have R2 := S2.bel R1 (by omega)
    have x2 := k2.below R2
    have el2 := S2.blk.lt
    have g12b := x2.at_ (j := 12) (by omega)
    rw [hx] at g12b
    clear hx g12
    gi_wp2_with (first
      | (refine ⟨trivial, ?_⟩; gi_at_call 36; refine (callsIn_wide.2 (fits_any p hp A1 n1 c1 _ n2 c2 6 (by omega) (by omega) w2 x2 h7)).mono ?_; rintro e w3 ⟨he, hB3⟩; (try rw [h6] at he); subst he; have P3 := P2.below hB3; have E3 := (S2.blk).below hB3; have SS3 := SS2.below hB3; have ec3 := E3.cell; have sc3 := SS3.cell; have el3 := E3.lt; have R3 := below_then R2 hB3; have x3 := x2.below hB3)
      | (refine ⟨trivial, ?_⟩; gi_at_call 37; refine (callsIn_wide.2 (split_any A' n' c' w3)).mono ?_; rintro e w4 ⟨rfl, hw4⟩; (obtain ⟨kB, hkB⟩ : ∃ kB : Nat, w3.heap.size = kB := ⟨_, rfl⟩); rw [hkB]))
    clear hw4
    obtain ⟨w4, hw4⟩ : ∃ w4, w3.alloc (.cells #[.slice A' n' c'] 24) = w4 := ⟨_, rfl⟩
    rw [hw4]
    have hB4 : Below w3.heap.size w3 w4 := by rw [← hw4]; exact (Below.refl _ _).alloc (Nat.le_refl _) _
    have B4 : Blk w4 kB #[.slice A' n' c'] 24 := by rw [← hw4]; exact blk_new _ _ _ _ hkB
    have E4 := E3.below hB4
    have SS4 := SS3.below hB4
    have R4 := below_then R3 hB4
    have x4 := x3.below hB4
    have hk4 : k + 1 + 1 < kB := by rw [← hkB]; exact el3
    have hD4 : w4.heap.size = kB + 1 := by rw [← hw4, ← hkB]; simp
    clear hw4 P3 E3 SS3 ec3 sc3 el3 P2 SS2 pc2 hB3 hkB x2 g12b P1 S1 E1 Pc1 Sc1 Ec1 el2
    refine range_law2 rfl (by omega) (gf := 69) (lb := #[.pointer (some ⟨kB, 0, none⟩)]) rfl trivial (enters_of Try.func69 (by kernel_rfl) rfl)
      encX (fun _ => rfl) spStep ⟨[], .slice A' n' c', none, false⟩ (fun s => optsP l = some s.os) (SplI w kB (TcC w k kB w4.heap.size)) (TcIx w k l) (SplOk l) (TcR w k kB w4.heap.size) ?hI ?hIx ?hJ ?h0 ?hassign ?hbody ?hiter ?hdone ?hstop
    case hI => exact fun s W o ho h => splI_put h o ho (by have := R4.size; omega) (by omega)
    case hIx =>
      rintro c s W o ho ⟨i1, i2, i3, ⟨d0, d1, d2, d3, d4, d5, d6, d7, d8, S⟩, i5, i6⟩
      exact ⟨i1, i2, i3, ⟨d0, d1, d2, d3, d4, d5, d6, d7, d8, ⟨(World.putObj_heap_other (by omega)).trans S.rd⟩⟩, ⟨(World.putObj_heap_other (by omega)).trans i5.rd⟩, below_putObj i6 (by have := R4.size; omega) _⟩
    case hJ =>
      rintro s x a W o ho ⟨j1, j2, j3, ⟨q, j4, j5, j6, j7⟩, j8, j9, j10⟩
      exact ⟨j1, j2, j3, ⟨q, j4, j5.put j10.1.d o, j6, j7⟩, j8, j9, splI_put j10 o ho (by have := R4.size; omega) (by omega)⟩
    case h0 =>
      intro o o' ho ho'
      have hb' : Below w4.heap.size w4 ((w4.alloc o).alloc o') := ((Below.refl _ w4).alloc (Nat.le_refl _) _).alloc (by simp) _
      refine ⟨⟨⟨none, 0, SS4.below hb', osO_nil _ _⟩, E4.below hb', ⟨_, B4.below hb'⟩, ⟨o', ?_, ho'⟩⟩, ?_, ?_, below_then R4 hb', rfl, fun x h => by cases h⟩
      · have := World.alloc_heap_new (w4.alloc o) o'
        rwa [World.size_alloc] at this
      · exact (B4.below hb').cell.1 0
      · exact (B4.below hb').cell.2 0
    case hassign =>
      intro s x W K hok hi hs hK
      dsimp only [encX]
      gi_wp2
      have hb' : Below W.heap.size W (W.alloc (.cells #[.int .u8 x.o.kind, .slice x.A x.n x.c] 66)) := (Below.refl _ W).alloc (Nat.le_refl _) _
      refine hK _ _ (keeps_alloc _ _) ?_
      exact ⟨rfl, rfl, rfl, ⟨W.heap.size, rfl, blk_new _ _ _ _ rfl, by omega, by omega⟩, rfl, rfl, hi.below (fun os W W' h hb => h.below hb) hb'⟩
    case hbody =>
      rintro s y bb W ⟨hpd, hok1, hok2⟩ ⟨js, j2, j3, ⟨qq, j6, Qb, qn1, qn2⟩, j7, jd, ji⟩ hz
      obtain ⟨f, hf, hfv⟩ := slots js
      have f2 := hfv 2 _ (by omega) j2
      have f3 := hfv 3 _ (by omega) j3
      have f6 := hfv 6 _ (by omega) j6
      have f7 := hfv 7 _ (by omega) j7
      obtain ⟨tm, df⟩ := bb
      simp only at hf jd
      subst hf jd
      simp only [List.range, List.range.loop, List.map_cons, List.map_nil, f2, f3, f6, f7]
      obtain ⟨⟨⟨OA, oc, Sb, Ob⟩, Eb, ⟨vB, Bb⟩, Nc⟩, iB, iF, iL, ibad, iD⟩ := ji
      have sc := Sb.cell
      have ec := Eb.cell
      have qc := Qb.cell
      have sl := Sb.lt
      have el := Eb.lt
      have ql := Qb.lt
      clear hfv j2 j3 j6 j7 js
      cases hy : y.ok with
      | false =>
        have HO : Hid (optsP l = none) := hok1 hy
        clear hok1 hok2 hpd iD
        gi_wp2
        apply wpIn_goto
        exact ⟨keeps_setCell _ _ _, rfl, by simp [spStep, hy], HO.out, ⟨_, _, _, _, _, _, _, _, _, Sb.far _ (by simp) _⟩, Eb.set_ 0 (.int .i64 4), iL.setCell (p := ⟨k + 1 + 1, 0, none⟩) (by simp only []; have := R4.size; omega) _⟩
      | true =>
        obtain ⟨xs, hxs, hj⟩ := Ob.own
        have hown := iD y hpd hy
        have HLs := Lib.hid (hok2 hy)
        have Hj := Lib.hid hj
        have HL := Lib.hid hbO.len
        clear hok1 hok2 hpd iD hj
        obtain ⟨m, hm⟩ : ∃ m, s.os.length = m := ⟨_, rfl⟩
        rw [hm] at Sb Ob hxs Hj HLs sc
        have hm40 : m ≤ 40 := by have := HLs.out; have := HL.out; omega
        have HM := Lib.hid hm
        clear hm
        obtain ⟨ii, hi, hz', hs', hb'⟩ := info_parts info_opt
        have hT1 : (29 : TypeId) ≠ 66 := by decide
        have hT2 : (30 : TypeId) ≠ 66 := by decide
        have hT3 : (24 : TypeId) ≠ 66 := by decide
        have hT4 : (29 : TypeId) ≠ 5 := by decide
        gi_wp2_with (gi_at_builtin; refine wpListIn_appG (w0 := w) _ rfl _ _ _ rfl w.heap.size 66 ii (.agg #[.int .u8 0, .slice none 0 0]) 2 32 Try.underlying27 hi hz' hs' hb' rfl (by omega) (by omega) OA m oc xs rfl (hxs.alloc _) ⟨W.heap.size, 0, none⟩ 1 1 [.int .u8 y.o.kind, .slice y.A y.n y.c] rfl rfl (new2 _ _ _ _) (by intro u h; simp at h; rcases h with rfl | rfl <;> rfl) (below_alloc iL (by omega) _) (by omega) (by have := iL.size; simp; omega) ?_; intro A5 c5 w5 O5 hB5 hG5 hz5; have hx2 := hxs.alloc (.cells #[.int .u8 y.o.kind, .slice y.A y.n y.c] 66); have S5 := (Sb.alloc (.cells #[.int .u8 y.o.kind, .slice y.A y.n y.c] 66)).kept hG5 (hx2.ne_blk (Sb.alloc (.cells #[.int .u8 y.o.kind, .slice y.A y.n y.c] 66)) hT1); have sc5 := S5.cell)
        have vv : vB = s.v := by have e1 := Bb.cell.1 0; rw [iB] at e1; simpa using e1.symm
        have E5 := (Eb.alloc (.cells #[.int .u8 y.o.kind, .slice y.A y.n y.c] 66)).kept hG5 (hx2.ne_blk (Eb.alloc _) hT2)
        have B5 := ((Bb.alloc (.cells #[.int .u8 y.o.kind, .slice y.A y.n y.c] 66)).kept hG5 (hx2.ne_blk (Bb.alloc _) hT3)).far ⟨k + 1, 7, none⟩ (by simp only []; omega) (.slice A5 (m + 1) c5)
        have N5 := ((Nc.below ((Below.refl _ W).alloc (Nat.le_refl _) (.cells #[.int .u8 y.o.kind, .slice y.A y.n y.c] 66))).kept hG5 hx2.cells).set ⟨k + 1, 7, none⟩ (.slice A5 (m + 1) c5)
        have OO := (Ob.below ((Below.refl _ W).alloc (Nat.le_refl _) (.cells #[.int .u8 y.o.kind, .slice y.A y.n y.c] 66))).snoc hx2 (fun j hj => by obtain ⟨a1, B', m', d', a2, a3⟩ := Hj.out j hj; exact ⟨a1, B', m', d', a2, a3.alloc _⟩) hG5 y.o (hown.alloc _) O5
        have OO2 := OO.apart (grownBy_setCell w5 ⟨k + 1, 7, none⟩ (.slice A5 (m + 1) c5)) (fun j e => by cases e; exact ⟨S5.notOf hT4, S5.notOf hT1⟩)
        refine ⟨?_, ⟨⟨A5, c5, ?_, ?_⟩, E5.far _ (by simp) _, ⟨_, B5⟩, N5⟩, ?_, B5.cell.2 0, hB5.setCell (p := ⟨k + 1, 7, none⟩) (by simp only []; omega) _, by simp [spStep, hy], fun x h => by cases h⟩
        · exact (keeps_alloc _ _).trans (((KeepsOthers.of_grownBy hG5 hx2.cells).from _).trans (keeps_setCell _ _ _))
        · have := S5.set_ 7 (.slice A5 (m + 1) c5)
          simp only [spStep, hy, if_true, List.length_append, List.length_cons, List.length_nil, HM.out]
          exact this
        · simp only [spStep, hy, if_true, List.length_append, List.length_cons, List.length_nil, HM.out]
          exact OO2
        · rw [B5.cell.1 0, vv]; rfl
    case hiter =>
      intro R Rx W1 hRk hRs hY h0 hR0 hz
      exact split1_in w4.heap.size kB w l n' hbO.len (by omega) (by omega) hbO.max (TcC w k kB w4.heap.size) (TcIx w k l) R Rx (fun os W W' h hb => h.below hb) (fun os W u h => h.setB (by omega) (by omega) u) (fun c s W h => h.bad) hRk hY W1 A' c' hbO h0 hR0
    case hstop =>
      rintro c s W ⟨rfl, i2, i3, ⟨d0, d1, d2, d3, d4, d5, d6, d7, d8, S⟩, i5, i6⟩ hK
      apply wpIn_goto
      exact ⟨rfl, ⟨rfl, rfl, rfl, ⟨_, _, _, _, _, _, _, _, _, S⟩, i5, i6, .inr ⟨_, rfl, hK, by have := R4.size; omega⟩⟩, i3⟩
    case hdone =>
      rintro s u10 hS ⟨⟨⟨OA, oc, S10, O10⟩, E10, -, -⟩, -, -, L10, -, -⟩ hK
      have z10 := k2.below L10
      have HOS : Hid (optsP l = some s.os) := hS
      obtain ⟨m, hm⟩ : ∃ m, s.os.length = m := ⟨_, rfl⟩
      rw [hm] at S10 O10
      have kl := R4.size
      have HM := Lib.hid hm
      have HL := Lib.hid hbO.len
      clear hS hm
      rw [hD4] at hK
      have lt10 := (Array.getElem?_eq_some_iff.1 hK).1
      have hne1 : k + 1 ≠ kB + 1 := by omega
      have hne2 : k + 1 + 1 ≠ kB + 1 := by omega
      dsimp only
      gi_wp2
      with_reducible refine And.intro ?_ ?_
      exact trivial
      gi_at_call 38
      refine (callsIn_wide.2 (g0 u10 z10)).mono ?_
      rintro e u11 ⟨rfl, hD11⟩
      have hB11 := hD11.bel
      have S11 := S10.below hB11
      have E11 := E10.below hB11
      have z11 := z10.below hB11
      have L11 := below_then L10 hB11
      have O11 := O10.below hB11
      gi_wp2
      with_reducible refine And.intro ?_ ?_
      exact trivial
      gi_at_call 38
      refine (callsIn_wide.2 (g2 u11 z11)).mono ?_
      rintro e u12 ⟨rfl, hD12⟩
      have hB12 := hD12.bel
      have S12 := S11.below hB12
      have E12 := E11.below hB12
      have z12 := z11.below hB12
      have L12 := below_then L11 hB12
      have O12 := O11.below hB12
      gi_wp2
      with_reducible refine And.intro ?_ ?_
      exact trivial
      gi_at_call 39
      refine (callsIn_wide.2 (g4 u12 z12)).mono ?_
      rintro e u13 ⟨rfl, hD13⟩
      have hB13 := hD13.bel
      have S13 := S12.below hB13
      have E13 := E12.below hB13
      have z13 := z12.below hB13
      have L13 := below_then L12 hB13
      have O13 := O12.below hB13
      gi_wp2
      with_reducible refine And.intro ?_ ?_
      exact trivial
      gi_at_call 39
      refine (callsIn_wide.2 (g8 u13 z13)).mono ?_
      rintro e u14 ⟨rfl, hD14⟩
      have hB14 := hD14.bel
      have S14 := S13.below hB14
      have E14 := E13.below hB14
      have z14 := z13.below hB14
      have L14 := below_then L13 hB14
      have O14 := O13.below hB14
      have sc14 := S14.cell
      have sl14 := S14.lt
      obtain ⟨w6, hw6, S6⟩ := store0123 S14 (.int .u16 v0) (.int .u16 v2) (.int .u32 v4) (.int .u32 v8)
      gi_wp2
      have HK6 : w6.heap[kB + 1]? = some (Obj.deferred (some [])) := by
        rw [← hw6]; simp only [heap_setCell_ne _ _ _ _ _ hne1]; exact ((below_then (below_then (below_then hB11 hB12) hB13) hB14).block _ lt10).trans hK
      have lt6 := (Array.getElem?_eq_some_iff.1 HK6).1
      have L6 := S6.bel L14 (by omega)
      have z6 := k2.below L6
      have D6 := hbD.below L6
      have hT4 : (29 : TypeId) ≠ 5 := by decide
      have hT1 : (29 : TypeId) ≠ 66 := by decide
      have hT5 : (30 : TypeId) ≠ 5 := by decide
      have hT6 : (30 : TypeId) ≠ 66 := by decide
      have Q6 : SO w6 w.heap.size (k + 1) 29 OA m oc s.os := by rw [← hw6]; exact ((((SO.mk O14 ⟨_, S14⟩).set hT4 hT1 _ _).set hT4 hT1 _ _).set hT4 hT1 _ _).set hT4 hT1 _ _
      have E6 := S6.other (k := k + 1 + 1) (by omega) E14
      have l6 := L6.size
      have r6s : w.heap.size ≤ w6.heap.size := L6.size
      have i13 : (13 : Int) < n2 := by omega
      clear hw6 sc14 S10 S11 S12 S13 E10 E11 E12 E13 O10 O11 O12 O13 sl14
      refine wpIn_wide.2 ?_
      refine region_txt 12 (by kernel_rfl) (by kernel_rfl) ?_; (iterate 12 (first | (apply ObsK.skip (by rfl)) | (apply ObsK.v (by rfl); (intro wo hT; (repeat (first | (intro v hv; (skip)) | (intro _ _ k; try have hcv := cv k))); (have bo := z6.below hT; have hsz : w6.heap.size ≤ wo.heap.size := hT.size; have g13o := g13 wo bo); refine Goes.mk ?_; go_simp; first | exact goes_v | exact goes_b (by assumption) | (refine goes_enter ?_; first | (go_at_call 38; ((with_reducible refine (g14 wo bo).mono ?_); rintro e w9 ⟨rfl, hD9⟩); exact ret_v hD9.bel) | (go_at_call 38; ((with_reducible refine (g18 wo bo).mono ?_); rintro e w9 ⟨rfl, hD9⟩); exact ret_v hD9.bel) | (go_at_call 40; ((with_reducible refine (clone_any AD nD cD _ wo (D6.below hT)).mono ?_); rintro e w9 ⟨A9, c9, rfl, ho9, hB9⟩); exact ret_p (own_isW ho9 hsz) hB9)))) | (apply ObsK.b (by rfl); (intro wo hT; (repeat (first | (intro v hv; (skip)) | (intro _ _ k; try have hcv := cv k))); (have bo := z6.below hT; have hsz : w6.heap.size ≤ wo.heap.size := hT.size; have g13o := g13 wo bo); refine Goes.mk ?_; go_simp; first | exact goes_v | exact goes_b (by assumption) | (refine goes_enter ?_; first | (go_at_call 38; ((with_reducible refine (g14 wo bo).mono ?_); rintro e w9 ⟨rfl, hD9⟩); exact ret_v hD9.bel) | (go_at_call 38; ((with_reducible refine (g18 wo bo).mono ?_); rintro e w9 ⟨rfl, hD9⟩); exact ret_v hD9.bel) | (go_at_call 40; ((with_reducible refine (clone_any AD nD cD _ wo (D6.below hT)).mono ?_); rintro e w9 ⟨A9, c9, rfl, ho9, hB9⟩); exact ret_p (own_isW ho9 hsz) hB9)))) | (apply ObsK.p (q := isW w6.heap.size (p.dat.drop hd)) (by rfl) st_isW; (intro wo hT; (repeat (first | (intro v hv; (skip)) | (intro _ _ k; try have hcv := cv k))); (have bo := z6.below hT; have hsz : w6.heap.size ≤ wo.heap.size := hT.size; have g13o := g13 wo bo); refine Goes.mk ?_; go_simp; first | exact goes_v | exact goes_b (by assumption) | (refine goes_enter ?_; first | (go_at_call 38; ((with_reducible refine (g14 wo bo).mono ?_); rintro e w9 ⟨rfl, hD9⟩); exact ret_v hD9.bel) | (go_at_call 38; ((with_reducible refine (g18 wo bo).mono ?_); rintro e w9 ⟨rfl, hD9⟩); exact ret_v hD9.bel) | (go_at_call 40; ((with_reducible refine (clone_any AD nD cD _ wo (D6.below hT)).mono ?_); rintro e w9 ⟨A9, c9, rfl, ho9, hB9⟩); exact ret_p (own_isW ho9 hsz) hB9)))))); refine ObsK.nil ?_; intro wz hBz; simp only [finOn, List.drop_succ_cons, List.drop_zero, List.drop_nil]
      rintro v9 ⟨A9, n9, c9, rfl, O9⟩
      go_simp
      have Sz := S6.blk.below hBz
      have Ez := E6.below hBz
      have Qz := Q6.below hBz
      have Lz := below_then L6 hBz
      have szc := Sz.cell
      have szl := Sz.lt
      obtain ⟨wf, hwf, Sf⟩ := store4568 Sz (.int .u8 v13) (.int .u16 v14) (.int .u16 v18) (.slice A9 n9 c9)
      have sfc := Sf.blk.cell
      have Ef := Sf.other (k := k + 1 + 1) (by omega) Ez
      have efc := Ef.cell
      have sfl := Sf.blk.lt
      have efl := Ef.lt
      go_wp2_with fail
      obtain ⟨wg, hwg, Sg⟩ := store9 Sf.blk (.int .u16 v0) (.int .u16 v2) (.int .u32 v4) (.int .u32 v8) (.int .u8 v13) (.int .u16 v14) (.int .u16 v18) (.slice OA m oc) (.slice A9 n9 c9)
      have Eg := Sg.other (k := k + 1 + 1) (by omega) Ef
      have egc := Eg.cell
      have egl := Eg.lt
      obtain ⟨wh, hwh, Eh⟩ := store1 Eg 0 (.int .i64 0)
      have Sh := Eh.other (k := k + 1) (by omega) Sg.blk
      have shc := Sh.cell
      have ehc := Eh.blk.cell
      gi_wp2
      show LeavesInM _ _ _ _ _ _ _ .returning _
      have HKf : wf.heap[kB + 1]? = some (Obj.deferred (some [])) := by
        rw [← hwf]; simp only [heap_setCell_ne _ _ _ _ _ hne1]; exact (hBz.block _ lt6).trans HK6
      have HKg : wg.heap[kB + 1]? = some (Obj.deferred (some [])) := by
        rw [← hwg]; simp only [heap_setCell_ne _ _ _ _ _ hne1]; exact HKf
      have HKh : wh.heap[kB + 1]? = some (Obj.deferred (some [])) := by
        rw [← hwh]; simp only [heap_setCell_ne _ _ _ _ _ hne2]; exact HKg
      have Qf : SO wf w.heap.size (k + 1) 29 OA m oc s.os := by rw [← hwf]; exact (((Qz.set hT4 hT1 _ _).set hT4 hT1 _ _).set hT4 hT1 _ _).set hT4 hT1 _ _
      have Qg : SO wg w.heap.size (k + 1) 29 OA m oc s.os := by
        rw [← hwg]; exact ((((((((Qf.set hT4 hT1 _ _).set hT4 hT1 _ _).set hT4 hT1 _ _).set hT4 hT1 _ _).set hT4 hT1 _ _).set hT4 hT1 _ _).set hT4 hT1 _ _).set hT4 hT1 _ _).set hT4 hT1 _ _
      have Qh : OsO wh w.heap.size OA m oc s.os := by
        rw [← hwh]; exact Qg.o.apart (grownBy_setCell _ _ _) (fun j e => by cases e; exact ⟨Eg.notOf hT5, Eg.notOf hT6⟩)
      have NC : NoCells wh (kB + 1) := ⟨_, HKh, rfl⟩
      have Qe := Qh.apart (grownBy_putObj' wh (kB + 1) (Obj.deferred none)) (fun j e => by cases e; exact ⟨NC.notOf _, NC.notOf _⟩)
      have el6 := E6.lt
      have Of := Sf.own O9 (fun a e => by have := O9.ge a e; omega)
      have Og := Sg.own Of (fun a e => by have := O9.ge a e; omega)
      have Oh := Eh.own Og (fun a e => by have := O9.ge a e; omega)
      have Oe := Oh.apart (grownBy_putObj' wh (kB + 1) (Obj.deferred none)) (fun j e => by cases e; exact NC.notOf _)
      have Lh := Eh.bel (Sg.bel (Sf.bel Lz (by omega)) (by omega)) (by omega)
      refine ⟨by simp, .inl ⟨_, _, rfl, run_takeDeferred HKh, ?_⟩⟩
      have pf2 : ∀ j, (wh.putObj (kB + 1) (Obj.deferred none)).cell? ⟨k + 1, j, none⟩ = _ := fun j => (cell_putObj (by simpa using hne1) _).trans (shc.1 j)
      have pg2 : ∀ j, (wh.putObj (kB + 1) (Obj.deferred none)).cell? ⟨k + 1 + 1, j, none⟩ = _ := fun j => (cell_putObj (by simpa using hne2) _).trans (ehc.1 j)
      exact ⟨.tuple #[.agg #[.int .u16 v0, .int .u16 v2, .int .u32 v4, .int .u32 v8, .int .u8 v13, .int .u16 v14, .int .u16 v18, .slice OA m oc, .slice A9 n9 c9], .int .i64 0], by simp [results, Try.results14, go_sem, pf2, pg2],
        HY.out s.os HOS.out _ _ ⟨OA, m, oc, A9, n9, c9, rfl, Qe, by have := optsP_len HOS.out; have := HM.out; have := HL.out; omega, Oe.mono r6s, below_putObj Lh (by omega) _⟩⟩
end Go.Proofs.Ytjjhnjkmoogloaa

/- A packet's segment, parsed by the program: in one. -/
namespace Go.Proofs.Ytjjhnjkmoogloaa
open Go.RowKit
set_option linter.unusedVariables false
set_option linter.unusedSimpArgs false
set_option maxHeartbeats 4000000

theorem tc_ways (p : Pkt) (n2 : Nat) (l2 : p.dat.length = n2) (x : Int) (hx : bt p.dat 12 = x) (hd : Nat) (hh : hdS p.dat = hd) :
    (tcE p ≠ 0 ∧ ((tcE p = 12 ∧ (p.proto != 6) = true) ∨ (tcE p = 3 ∧ (p.proto != 6) = false ∧ (n2 : Int) < 20) ∨ (tcE p = 4 ∧ (p.proto != 6) = false ∧ 20 ≤ (n2 : Int) ∧ (hd : Int) < 20) ∨ (tcE p = 4 ∧ (p.proto != 6) = false ∧ 20 ≤ (n2 : Int) ∧ 20 ≤ (hd : Int) ∧ (x % 16 != 0) = true) ∨
      (tcE p = 3 ∧ (p.proto != 6) = false ∧ 20 ≤ (n2 : Int) ∧ 20 ≤ (hd : Int) ∧ (x % 16 != 0) = false ∧ (n2 : Int) < (hd : Int)) ∨ (tcE p = 5 ∧ (p.proto != 6) = false ∧ 20 ≤ (n2 : Int) ∧ 20 ≤ (hd : Int) ∧ (x % 16 != 0) = false ∧ (hd : Int) ≤ (n2 : Int) ∧ (psum p 6 p.dat == 0) = false))) ∨
    ((p.proto != 6) = false ∧ 20 ≤ (n2 : Int) ∧ 20 ≤ (hd : Int) ∧ (x % 16 != 0) = false ∧ (hd : Int) ≤ (n2 : Int) ∧ (psum p 6 p.dat == 0) = true ∧ (optsP ((p.dat.take hd).drop 20) = none → tcE p = 4) ∧ (∀ os, optsP ((p.dat.take hd).drop 20) = some os → tcE p = 0)) := by
  unfold tcE
  rw [l2, hh, hx]
  by_cases h1 : p.proto = 6
  · by_cases h2 : n2 < 20
    · have h2' : (n2 : Int) < 20 := by omega
      simp [h1, h2, h2']
    · have h2' : 20 ≤ (n2 : Int) := by omega
      by_cases h3 : hd < 20
      · have h3' : (hd : Int) < 20 := by omega
        simp [h1, h2, h2', h3, h3']
      · have h3' : 20 ≤ (hd : Int) := by omega
        by_cases h4 : x % 16 = 0
        · by_cases h5 : n2 < hd
          · have h5' : (n2 : Int) < hd := by omega
            simp [h1, h2, h2', h3, h3', h4, h5, h5']
          · have h5' : (hd : Int) ≤ n2 := by omega
            by_cases h6 : psum p 6 p.dat = 0
            · right
              refine ⟨by simp [h1], h2', h3', by simp [h4], h5', by simp [h6], fun h => ?_, fun os h => ?_⟩
              · simp [h1, h2, h3, h4, h5, h6, h]
              · simp [h1, h2, h3, h4, h5, h6, h]
            · left
              have h6' : (psum p 6 p.dat == 0) = false := by simp [h6]
              rw [if_neg (by simp [h1]), if_neg h2, if_neg (by simp [h3, h4]), if_neg h5, if_pos h6]
              exact ⟨by decide, .inr (.inr (.inr (.inr (.inr ⟨rfl, by simp [h1], h2', h3', by simp [h4], h5', h6'⟩))))⟩
        · left
          rw [if_neg (by simp [h1]), if_neg h2, if_pos (.inr h4)]
          exact ⟨by decide, .inr (.inr (.inr (.inl ⟨rfl, by simp [h1], h2', h3', by simp [h4]⟩)))⟩
  · left
    rw [if_pos h1]
    exact ⟨by decide, .inl ⟨rfl, by simp [h1]⟩⟩
theorem tcp_any (p : Pkt) (hp : p.Ok) (A1 : Option Addr) (n1 c1 : Nat) (A2 : Option Addr) (n2 c2 : Nat) (w : World) (k2 : Bs w A2 n2 c2 p.dat) (h7 : n2 ≤ 140737488400000) :
    Calls Try.prog 14 #[(.agg #[.int .u8 (p).tos, .int .u16 (p).id, .bool (p).keep, .int .u8 (p).ttl, .int .u8 (p).proto, .int .u32 (p).src, .int .u32 (p).dst, .slice A1 n1 c1, .slice A2 n2 c2])] w (TcPost w (tcS p) (tcE p)) := by
  have b0 := bt_lo p.dat 12
  have hq : bt p.dat 12 / 16 * 4 = ((hdS p.dat : Nat) : Int) := by unfold hdS; omega
  rcases tc_ways p n2 k2.len _ rfl _ rfl with ⟨h0, h⟩ | ⟨h1, h2, h3, h4, h5, h6, hN, hY⟩
  · have hs : tcS p = zS := by unfold tcS; rw [if_neg h0]
    rw [hs]
    refine tcp_no p hp A1 n1 c1 A2 n2 c2 w k2 _ _ _ _ rfl rfl hq ?_
    rcases h with h | h | h | h | h | h
    · exact .inl h
    · exact .inr (.inl h)
    · exact .inr (.inr (.inl h))
    · exact .inr (.inr (.inr (.inl h)))
    · exact .inr (.inr (.inr (.inr (.inl h))))
    · exact .inr (.inr (.inr (.inr (.inr ⟨h.1, h.2.1, h.2.2.1, h.2.2.2.1, h.2.2.2.2.1, h.2.2.2.2.2.1, h.2.2.2.2.2.2, h7⟩))))
  · refine tcp_go p hp A1 n1 c1 A2 n2 c2 w k2 _ _ _ rfl rfl hq h1 h2 h3 h4 h5 h6 h7 _ (fun hn e w' k => ?_) (fun os hs e w' k => ?_)
    · have he := hN hn
      have hz : tcS p = zS := by unfold tcS; rw [if_neg (by omega)]
      rw [hz, he]
      exact k
    · have he := hY os hs
      have hz : tcS p = ⟨get16 p.dat 0, get16 p.dat 2, get32 p.dat 4, get32 p.dat 8, bt p.dat 13, get16 p.dat 14, get16 p.dat 18, os, p.dat.drop (hdS p.dat)⟩ := by
        unfold tcS; rw [if_pos he]; unfold rdS; rw [hs]; rfl
      rw [hz, he]
      exact k
end Go.Proofs.Ytjjhnjkmoogloaa

/- lychgatelaw03.live. -/
namespace Go.Proofs.Ytjjhnjkmoogloaa
open Go.RowKit
set_option linter.unusedVariables false
set_option linter.unusedSimpArgs false
set_option maxHeartbeats 4000000
set_option maxRecDepth 100000

def s03 : Seg := ⟨1, 0, 0, 0, 0, 0, 0, [⟨1, []⟩, ⟨1, []⟩, ⟨5, [0, 0, 0, 1, 0, 0, 0, 2]⟩], []⟩
def p03 : Pkt := ⟨0, 0, false, 0, 6, 0, 0, [], [0, 1, 0, 0, 0, 0, 0, 0, 0, 0, 0, 0, 128, 0, 0, 0, 121, 202, 0, 0, 1, 1, 5, 10, 0, 0, 0, 1, 0, 0, 0, 2]⟩
theorem s03_ok : s03.Ok := ⟨by decide, by decide, by decide, by decide, by decide, by decide, by decide, fun o h => by
  simp only [s03, List.mem_cons, List.not_mem_nil, or_false] at h
  rcases h with rfl | rfl | rfl <;> exact ⟨by decide⟩⟩
theorem p03_ok : p03.Ok := ⟨by decide, by decide, by decide, by decide, by decide, by decide⟩
theorem OwnG.at1 {w : World} {base : Nat} {e : TypeId} {A : Option Addr} {n c : Nat} {xs : List Value} (h : OwnG w base e 1 A n c xs) (hn : 0 < n) : ∃ g, A = some ⟨g, 0, none⟩ ∧ n ≤ c ∧ ∀ j v, xs[j]? = some v → w.cell? ⟨g, j, none⟩ = some v := by
  rcases h.row.2 with ⟨hv, h0⟩ | ⟨g, cap, cur, hv, _, hg, hnc, hcm, hcs, htake⟩
  · injection hv with h1 h2 h3
    omega
  · injection hv with h1 h2 h3
    subst h1 h3
    refine ⟨g, rfl, hnc, fun q v hq => ?_⟩
    rw [cell_of_row w g q cur e (0, 0) hg]
    rw [← htake, List.getElem?_take] at hq
    split at hq
    · simpa using hq
    · cases hq
theorem live03_any (w : World) : Calls Try.prog 16 #[] w fun e w' => e = .returned (.bool true) ∧ Below w.heap.size w w' := by
  have cb : ∀ W OA, Os W OA 3 3 s03.opts → Calls Try.prog 18 #[.agg #[.int .u8 0, .int .u16 0, .bool false, .int .u8 0, .int .u8 0, .int .u32 0, .int .u32 0, .slice none 0 0, .slice none 0 0], .agg #[.int .u16 1, .int .u16 0, .int .u32 0, .int .u32 0, .int .u8 0, .int .u16 0, .int .u16 0, .slice OA 3 3, .slice none 0 0]] W fun e w' => ∃ B1 m1 d1 B2 d2, e = .returned (.tuple #[.agg #[.int .u8 0, .int .u16 0, .bool false, .int .u8 0, .int .u8 6, .int .u32 0, .int .u32 0, .slice B1 m1 d1, .slice B2 32 d2], .int .i64 0]) ∧ Own w' W.heap.size 5 B2 32 d2 p03.dat ∧ Below W.heap.size W w' := fun W OA K => by
    have hh := sbuild_any zP ⟨by decide, by decide, by decide, by decide, by decide, by decide⟩ none 0 0 none 0 0 s03 s03_ok OA 3 3 none 0 0 W (Bs.none_ _) K (Bs.none_ _) (by omega)
    refine hh.mono fun e w' hq => ?_
    obtain ⟨B1, m1, d1, B2, m2, d2, rfl, -, h2, h3⟩ := hq.out
    have e1 : sbP zP s03 = p03 := by kernel_rfl
    have e2 : sbE zP s03 = 0 := by kernel_rfl
    rw [e1] at h2 ⊢
    rw [e2]
    have h4 : m2 = 32 := h2.len.symm
    subst h4
    exact ⟨B1, m1, d1, B2, d2, rfl, h2, h3⟩
  have ct : ∀ W B1 m1 d1 B2 d2, Bs W B2 32 d2 p03.dat → Calls Try.prog 14 #[.agg #[.int .u8 0, .int .u16 0, .bool false, .int .u8 0, .int .u8 6, .int .u32 0, .int .u32 0, .slice B1 m1 d1, .slice B2 32 d2]] W fun e w' => ∃ OA oc DA dn dc, e = .returned (.tuple #[(.agg #[.int .u16 (s03).src, .int .u16 (s03).dst, .int .u32 (s03).seq, .int .u32 (s03).ack, .int .u8 (s03).flags, .int .u16 (s03).win, .int .u16 (s03).urg, .slice OA 3 oc, .slice DA dn dc]), .int .i64 0]) ∧ Os w' OA 3 oc s03.opts ∧ Below W.heap.size W w' := fun W B1 m1 d1 B2 d2 K => by
    have hh := tcp_any p03 p03_ok B1 m1 d1 B2 32 d2 W K (by omega)
    refine hh.mono fun e w' hq => ?_
    obtain ⟨OA, on, oc, DA, dn, dc, rfl, h1, -, -, h3⟩ := hq.out
    have e1 : tcS p03 = s03 := by kernel_rfl
    have e2 : tcE p03 = 0 := by kernel_rfl
    rw [e1] at h1 ⊢
    rw [e2]
    have h4 : on = 3 := h1.len.symm
    subst h4
    exact ⟨OA, oc, DA, dn, dc, rfl, h1.os (by omega) s03_ok.opts, h3⟩
  have cu : ∀ W, Calls Try.prog 20 #[.agg #[.int .u8 0, .int .u16 0, .bool false, .int .u8 0, .int .u8 0, .int .u32 0, .int .u32 0, .slice none 0 0, .slice none 0 0], .agg #[.int .u16 7, .int .u16 0, .bool false, .slice none 0 0]] W fun e w' => ∃ B1 m1 d1 B2 d2, e = .returned (.tuple #[.agg #[.int .u8 0, .int .u16 0, .bool false, .int .u8 0, .int .u8 17, .int .u32 0, .int .u32 0, .slice B1 m1 d1, .slice B2 8 d2], .int .i64 0]) ∧ Below W.heap.size W w' := fun W => by
    have hh := dbuild_any zP ⟨by decide, by decide, by decide, by decide, by decide, by decide⟩ none 0 0 none 0 0 ⟨7, 0, false, []⟩ ⟨by decide, by decide⟩ none 0 0 W (Bs.none_ _) (Bs.none_ _) (by omega)
    refine hh.mono fun e w' hq => ?_
    obtain ⟨B1, m1, d1, B2, m2, d2, rfl, -, h2, h3⟩ := hq.out
    have e1 : dbP zP ⟨7, 0, false, []⟩ = ⟨0, 0, false, 0, 17, 0, 0, [], dS zP ⟨7, 0, false, []⟩⟩ := by kernel_rfl
    have e2 : dbE zP ⟨7, 0, false, []⟩ = 0 := by kernel_rfl
    rw [e1] at h2 ⊢
    rw [e2]
    have h4 := h2.len
    rw [dS_len] at h4
    have h5 : m2 = 8 := by simpa using h4.symm
    subst h5
    exact ⟨B1, m1, d1, B2, d2, rfl, h3⟩
  have ck : ∀ W OA oc DA dn dc, Os W OA 3 oc s03.opts → Calls Try.prog 23 #[(.agg #[.int .u16 (s03).src, .int .u16 (s03).dst, .int .u32 (s03).seq, .int .u32 (s03).ack, .int .u8 (s03).flags, .int .u16 (s03).win, .int .u16 (s03).urg, .slice OA 3 oc, .slice DA dn dc])] W fun e w' => ∃ g c, e = .returned (.slice (some ⟨g, 0, none⟩) 2 c) ∧ w'.cell? ⟨g, 1, none⟩ = some (.int .u32 2) ∧ Below W.heap.size W w' := fun W OA oc DA dn dc K => by
    have hh := sacks_any s03 OA 3 oc DA dn dc W K
    refine hh.mono fun e w' hq => ?_
    obtain ⟨A, n, c, rfl, h1, h3⟩ := hq.out
    have e1 : sks s03 = [1, 2] := by kernel_rfl
    rw [e1] at h1
    have h4 : n = 2 := by have := h1.len; simp [u32L] at this; omega
    subst h4
    obtain ⟨g, rfl, _, hc⟩ := h1.at1 (by omega)
    exact ⟨g, c, rfl, hc 1 _ rfl, h3⟩
  obtain ⟨k, hk⟩ : ∃ k : Nat, w.heap.size = k := ⟨_, rfl⟩
  obtain ⟨w1, hw1⟩ : ∃ W, ((w.alloc (.cells #[.int .u8 0, .int .u8 0, .int .u8 0, .int .u8 1, .int .u8 0, .int .u8 0, .int .u8 0, .int .u8 2] 5)).alloc (.cells #[.int .u8 1, .slice none 0 0, .int .u8 1, .slice none 0 0, .int .u8 5, .slice (some ⟨k, 0, none⟩) 8 8] 66)) = W := ⟨_, rfl⟩
  have R1 : Below w.heap.size w w1 := by rw [← hw1]; (repeat (first | with_reducible exact Below.refl _ _ | with_reducible refine below_drew ?_ | with_reducible refine below_drewN ?_ _ | with_reducible refine below_alloc ?_ (Nat.le_refl _) _ | with_reducible refine Below.setCell ?_ (by first | exact Nat.le_refl _ | (simp only []; omega)) _ | with_reducible assumption))
  have K1 : Os w1 (some ⟨k + 1, 0, none⟩) 3 3 s03.opts := by
    have b0 : Blk w1 (k + 1) #[.int .u8 1, .slice none 0 0, .int .u8 1, .slice none 0 0, .int .u8 5, .slice (some ⟨k, 0, none⟩) 8 8] 66 := by rw [← hw1]; exact blk_new _ _ _ _ (by simp [hk])
    have b1 : Bs w1 (some ⟨k, 0, none⟩) 8 8 [0, 0, 0, 1, 0, 0, 0, 2] := by
      rw [← hw1]
      exact (bs_litk (W := w) [0, 0, 0, 1, 0, 0, 0, 2] 8 hk rfl (by omega)).alloc _
    have bc := b0.cell.1
    refine ⟨rfl, by omega, by omega, (fun h => by cases h), s03_ok.opts, fun _ => ⟨k + 1, 0, rfl, fun j hj => ?_⟩⟩
    have : j = 0 ∨ j = 1 ∨ j = 2 := by omega
    rcases this with rfl | rfl | rfl
    · exact ⟨bc 0, none, 0, 0, bc 1, Bs.none_ _⟩
    · exact ⟨bc 2, none, 0, 0, bc 3, Bs.none_ _⟩
    · exact ⟨bc 4, _, _, _, bc 5, b1⟩

  go_enter Try.func16, Try.ntmps16
  go_wp2_with (first
    | (go_at_call 18; ((with_reducible refine (cb w1 _ K1).mono ?_); rintro e u2 ⟨B1, m1, d1, B2, d2, rfl, O2, hB2⟩); (obtain ⟨w2, hw2⟩ : ∃ W, u2.alloc (.cells #[.int .u8 0, .int .u16 0, .bool false, .int .u8 0, .int .u8 6, .int .u32 0, .int .u32 0, .slice B1 m1 d1, .slice B2 32 d2] 26) = W := ⟨_, rfl⟩); have V2 : Below u2.heap.size u2 w2 := (by rw [← hw2]; (repeat (first | with_reducible exact Below.refl _ _ | with_reducible refine below_drew ?_ | with_reducible refine below_drewN ?_ _ | with_reducible refine below_alloc ?_ (Nat.le_refl _) _ | with_reducible refine Below.setCell ?_ (by first | exact Nat.le_refl _ | (simp only []; omega)) _ | with_reducible assumption))); (obtain ⟨kP2, hkP2⟩ : ∃ k : Nat, u2.heap.size = k := ⟨_, rfl⟩); have P2 : Blk w2 kP2 #[.int .u8 0, .int .u16 0, .bool false, .int .u8 0, .int .u8 6, .int .u32 0, .int .u32 0, .slice B1 m1 d1, .slice B2 32 d2] 26 := (by rw [← hw2]; exact blk_new u2 _ _ _ hkP2); have Pc2 := P2.cell; have T2 := below_then hB2 V2; have x2 := (O2.bs).below V2; have R2 := below_then R1 T2)
    | (go_at_call 14; ((with_reducible refine (ct w2 B1 m1 d1 B2 d2 x2).mono ?_); rintro e u3 ⟨OA, oc, DA, dn, dc, rfl, K3, hB3⟩); (obtain ⟨w3, hw3⟩ : ∃ W, u3.alloc (.cells #[.int .u16 (s03).src, .int .u16 (s03).dst, .int .u32 (s03).seq, .int .u32 (s03).ack, .int .u8 (s03).flags, .int .u16 (s03).win, .int .u16 (s03).urg, .slice OA 3 oc, .slice DA dn dc] 29) = W := ⟨_, rfl⟩); have V3 : Below u3.heap.size u3 w3 := (by rw [← hw3]; (repeat (first | with_reducible exact Below.refl _ _ | with_reducible refine below_drew ?_ | with_reducible refine below_drewN ?_ _ | with_reducible refine below_alloc ?_ (Nat.le_refl _) _ | with_reducible refine Below.setCell ?_ (by first | exact Nat.le_refl _ | (simp only []; omega)) _ | with_reducible assumption))); (obtain ⟨kS3, hkS3⟩ : ∃ k : Nat, u3.heap.size = k := ⟨_, rfl⟩); have S3 : Blk w3 kS3 #[.int .u16 (s03).src, .int .u16 (s03).dst, .int .u32 (s03).seq, .int .u32 (s03).ack, .int .u8 (s03).flags, .int .u16 (s03).win, .int .u16 (s03).urg, .slice OA 3 oc, .slice DA dn dc] 29 := (by rw [← hw3]; exact blk_new u3 _ _ _ hkS3); have Sc3 := S3.cell; have T3 := below_then hB3 V3; have P3 := P2.below T3; have Pc3 := P3.cell; clear Pc2; have x3 := x2.below T3; have R3 := below_then R2 T3; have K33 := K3.below V3)
    | (go_at_call 20; ((with_reducible refine (cu w3).mono ?_); rintro e u4 ⟨C1, e1, f1, C2, f2, rfl, hB4⟩); (obtain ⟨w4, hw4⟩ : ∃ W, u4.alloc (.cells #[.int .u8 0, .int .u16 0, .bool false, .int .u8 0, .int .u8 17, .int .u32 0, .int .u32 0, .slice C1 e1 f1, .slice C2 8 f2] 26) = W := ⟨_, rfl⟩); have V4 : Below u4.heap.size u4 w4 := (by rw [← hw4]; (repeat (first | with_reducible exact Below.refl _ _ | with_reducible refine below_drew ?_ | with_reducible refine below_drewN ?_ _ | with_reducible refine below_alloc ?_ (Nat.le_refl _) _ | with_reducible refine Below.setCell ?_ (by first | exact Nat.le_refl _ | (simp only []; omega)) _ | with_reducible assumption))); (obtain ⟨kD4, hkD4⟩ : ∃ k : Nat, u4.heap.size = k := ⟨_, rfl⟩); have D4 : Blk w4 kD4 #[.int .u8 0, .int .u16 0, .bool false, .int .u8 0, .int .u8 17, .int .u32 0, .int .u32 0, .slice C1 e1 f1, .slice C2 8 f2] 26 := (by rw [← hw4]; exact blk_new u4 _ _ _ hkD4); have Dc4 := D4.cell; have T4 := below_then hB4 V4; have P4 := P3.below T4; have Pc4 := P4.cell; clear Pc3; have S4 := S3.below T4; have Sc4 := S4.cell; clear Sc3; have x4 := x3.below T4; have R4 := below_then R3 T4; have K34 := K33.below T4)
    | (go_at_call 23; ((with_reducible refine (ck w4 OA oc DA dn dc K34).mono ?_); rintro e w5 ⟨g, c, rfl, hc5, hB5⟩); have P5 := P4.below hB5; have Pc5 := P5.cell; clear Pc4; have S5 := S4.below hB5; have Sc5 := S5.cell; clear Sc4; have D5 := D4.below hB5; have Dc5 := D5.cell; clear Dc4; have x5 := x4.below hB5; have R5 := below_then R4 hB5))
  go_ret
  exact ⟨rfl, R5⟩
end Go.Proofs.Ytjjhnjkmoogloaa

/- A segment, a datagram, numbers of 32 bits that came in, opened. -/
namespace Go.Proofs.Ytjjhnjkmoogloaa
open Go.ChangeShapes Go.WideShapes Go.ChangeAt Go.RowKit Go.Deep
set_option linter.unusedVariables false
set_option maxRecDepth 100000

theorem list2 {α : Type} {l : List α} (h : l.length = 2) : ∃ a b, l = [a, b] := by
  match l, h with
  | [a, b], _ => exact ⟨a, b, rfl⟩
section
variable {H : Type} {enc : TypeId × Value → H} {w : World} {base : Nat} {held : Bool} {spare : Nat → Bool}
/-- One option. -/
theorem open_optT {cs : List Value} {n0 : Nat} {x : DataW H × List MemPlace} (h : DataW.trod enc Try.prog w base spare held n0 66 cs = some x) (hsz : ∀ m ∈ x.1.weights Try.prog 66, m ≤ reachBytes) :
    ∃ (o : Opt) (A : Option Addr) (n c : Nat), cs = [.int .u8 o.kind, .slice A n c] ∧ o.Ok ∧ Bs w A n c o.dat := by
  have hu := Try.underlying66
  obtain ⟨xs, n, hcl, hx, hxl, hi⟩ := open_structT hu (by kernel_rfl) h
  rw [hx] at hsz
  rw [show (Try.prog.cellsOf 66) = 2 from by kernel_rfl] at hcl
  obtain ⟨v0, v1, rfl⟩ := list2 hcl
  obtain ⟨y0, y1, rfl⟩ := list2 (by simpa using hxl)
  obtain ⟨a0, rfl, b0l, b0h⟩ := trod_byte (t := 5) Try.underlying5 (by simpa using hi 0 _ rfl)
  obtain ⟨A1, n1, c1, l1, rfl, k1, z1⟩ := trod_bytesT (t := 24) Try.underlying24 Try.underlying5 (by kernel_rfl) (by kernel_rfl) (weights_field (j := 1) (y := y1.1) hu hsz rfl (by simp)) (by simpa using hi 1 _ rfl)
  exact ⟨⟨a0, l1⟩, A1, n1, c1, rfl, ⟨⟨b0l, b0h⟩⟩, k1⟩
/-- A slice of options. -/
theorem open_opts {v : Value} {n0 : Nat} {x : DataW H × List MemPlace} (h : DataW.trod enc Try.prog w base spare held n0 27 [v] = some x) (hsz : ∀ m ∈ x.1.weights Try.prog 27, m ≤ reachBytes) :
    ∃ (A : Option Addr) (n c : Nat) (os : List Opt), v = .slice A n c ∧ Os w A n c os := by
  have hu := Try.underlying27
  rcases DataW.trod_slice hu h with ⟨hcs, _⟩ | ⟨a, len, cap, elems, rest, n, _, hcs, rfl, hb, hl, hm, hlen, hel, hsp, hns⟩
  · simp only [List.cons.injEq, and_true] at hcs
    subst hcs
    exact ⟨none, 0, 0, [], rfl, Os.none_ w⟩
  · simp only [List.cons.injEq, and_true] at hcs
    subst hcs
    rw [show (Try.prog.cellsOf 66) = 2 from by kernel_rfl] at hel
    have hw : ∀ (i : Nat) (y : DataW H × List MemPlace), elems[i]? = some y → ∀ m ∈ y.1.weights Try.prog 66, m ≤ reachBytes := fun i y hy m hmem => hsz m (by
      simp only [DataW.weights, hu]
      exact List.mem_cons_of_mem _ (List.mem_append_left _ (mem_weightsAll (d := y.1) (j := i) (by simp [hy]) m hmem)))
    have hn : len ≤ 4398046511104 := by
      have h1 := hsz ((elems.length + rest.length) * Try.prog.bytesOf 66) (by simp [DataW.weights, hu])
      rw [show Try.prog.bytesOf 66 = 32 from by kernel_rfl] at h1
      simp only [reachBytes] at h1
      omega
    have key : ∀ i, i < len → ∃ (o : Opt) (A : Option Addr) (n c : Nat), w.cell? (a.add (i * 2)) = some (.int .u8 o.kind) ∧ w.cell? ((a.add (i * 2)).add 1) = some (.slice A n c) ∧ o.Ok ∧ Bs w A n c o.dat := by
      intro i hi
      have h1 := hel i hi
      rw [List.getElem?_eq_getElem (by omega)] at h1
      obtain ⟨cs, h2, h3⟩ := Option.bind_eq_some_iff.1 h1
      obtain ⟨h4, h5, h6⟩ := World.cells?_some h2
      obtain ⟨o, A, n', c', rfl, ho, hB⟩ := open_optT h3 (hw i _ (List.getElem?_eq_getElem (by omega)))
      have e0 := h6 0 (by omega)
      have e1 := h6 1 (by omega)
      refine ⟨o, A, n', c', ?_, e1, ho, hB⟩
      simpa [Addr.add] using e0
    obtain ⟨f, hf⟩ : ∃ f : Nat → Opt, ∀ i, i < len → ∃ (A : Option Addr) (n c : Nat), w.cell? (a.add (i * 2)) = some (.int .u8 (f i).kind) ∧ w.cell? ((a.add (i * 2)).add 1) = some (.slice A n c) ∧ (f i).Ok ∧ Bs w A n c (f i).dat :=
      Classical.axiomOfChoice (r := fun (i : Nat) (o : Opt) => i < len → ∃ (A : Option Addr) (n c : Nat), w.cell? (a.add (i * 2)) = some (.int .u8 o.kind) ∧ w.cell? ((a.add (i * 2)).add 1) = some (.slice A n c) ∧ o.Ok ∧ Bs w A n c o.dat) (fun i => by
        by_cases hi : i < len
        · obtain ⟨o, h⟩ := key i hi
          exact ⟨o, fun _ => h⟩
        · exact ⟨zO, fun h => absurd h hi⟩)
    clear key
    obtain ⟨b, off, spot⟩ := a
    refine ⟨some ⟨b, off, spot⟩, len, cap, (List.range len).map f, rfl, ⟨by simp, hl, hn, (fun h => by cases h), ?_, fun h0 => ?_⟩⟩
    · intro o ho
      obtain ⟨i, hi, rfl⟩ := List.mem_map.1 ho
      obtain ⟨A, n', c', _, _, h3, _⟩ := hf i (List.mem_range.1 hi)
      exact h3
    · have hspot : spot = none := by
        obtain ⟨A, n', c', e0, _⟩ := hf 0 h0
        simpa [Addr.add] using World.cell?_spot e0
      subst hspot
      refine ⟨b, off, rfl, fun j hj => ?_⟩
      have hg : ((List.range len).map f).getD j zO = f j := by
        rw [List.getD_eq_getElem?_getD, List.getElem?_map, List.getElem?_range hj]
        rfl
      rw [hg]
      obtain ⟨A, n', c', e0, e1, _, e3⟩ := hf j hj
      have ha : (⟨b, off, none⟩ : Addr).add (j * 2) = ⟨b, off + j * 2, none⟩ := by unfold Addr.add; split <;> simp_all
      rw [ha] at e0 e1
      exact ⟨e0, A, n', c', by simpa [Addr.add] using e1, e3⟩
theorem open_seg {r : Reach} {b0 : Nat} {v : Value} {d : DataW H} {ps : List MemPlace} (hval : Value.okWide Try.prog w r b0 29 v) (hd : DataW.Trod enc Try.prog w base spare held 29 v d ps)
    (hsz : ∀ m ∈ d.weights Try.prog 29, m ≤ reachBytes) :
    ∃ (s : Seg) (OA : Option Addr) (on oc : Nat) (A1 : Option Addr) (n1 c1 : Nat), v = (.agg #[.int .u16 (s).src, .int .u16 (s).dst, .int .u32 (s).seq, .int .u32 (s).ack, .int .u8 (s).flags, .int .u16 (s).win, .int .u16 (s).urg, .slice OA on oc, .slice A1 n1 c1]) ∧ s.Ok ∧ Os w OA on oc s.opts ∧ Bs w A1 n1 c1 s.dat ∧ n1 ≤ 140737488351232 := by
  have hu := Try.underlying29
  obtain ⟨cs, xs, n, rfl, hcl, rfl, hxl, hi⟩ := open_struct hu (by kernel_rfl) hval hd
  rw [show (Try.prog.cellsOf 29) = 9 from by kernel_rfl] at hcl
  obtain ⟨v0, v1, v2, v3, v4, v5, v6, v7, v8, rfl⟩ := list9 hcl
  obtain ⟨y0, y1, y2, y3, y4, y5, y6, y7, y8, rfl⟩ := list9 (by simpa using hxl)
  obtain ⟨a0, rfl, b0l, b0h⟩ := trod_u16 (t := 22) Try.underlying22 (by simpa using hi 0 _ rfl)
  obtain ⟨a1, rfl, b1l, b1h⟩ := trod_u16 (t := 22) Try.underlying22 (by simpa using hi 1 _ rfl)
  obtain ⟨a2, rfl, b2l, b2h⟩ := trod_u32 (t := 23) Try.underlying23 (by simpa using hi 2 _ rfl)
  obtain ⟨a3, rfl, b3l, b3h⟩ := trod_u32 (t := 23) Try.underlying23 (by simpa using hi 3 _ rfl)
  obtain ⟨a4, rfl, b4l, b4h⟩ := trod_byte (t := 5) Try.underlying5 (by simpa using hi 4 _ rfl)
  obtain ⟨a5, rfl, b5l, b5h⟩ := trod_u16 (t := 22) Try.underlying22 (by simpa using hi 5 _ rfl)
  obtain ⟨a6, rfl, b6l, b6h⟩ := trod_u16 (t := 22) Try.underlying22 (by simpa using hi 6 _ rfl)
  obtain ⟨OA, on, oc, os, rfl, K⟩ := open_opts (by simpa using hi 7 _ rfl) (weights_field (j := 7) (y := y7.1) hu hsz rfl (by simp))
  obtain ⟨A1, n1, c1, l1, rfl, k1, z1⟩ := trod_bytesT (t := 24) Try.underlying24 Try.underlying5 (by kernel_rfl) (by kernel_rfl) (weights_field (j := 8) (y := y8.1) hu hsz rfl (by simp)) (by simpa using hi 8 _ rfl)
  exact ⟨⟨a0, a1, a2, a3, a4, a5, a6, os, l1⟩, OA, on, oc, A1, n1, c1, rfl, ⟨⟨b0l, b0h⟩, ⟨b1l, b1h⟩, ⟨b2l, b2h⟩, ⟨b3l, b3h⟩, ⟨b4l, b4h⟩, ⟨b5l, b5h⟩, ⟨b6l, b6h⟩, K.ok⟩, K, k1, z1⟩
theorem open_dgmT {cs : List Value} {n0 : Nat} {x : DataW H × List MemPlace} (h : DataW.trod enc Try.prog w base spare held n0 37 cs = some x) (hsz : ∀ m ∈ x.1.weights Try.prog 37, m ≤ reachBytes) :
    ∃ (f : Dgm) (A1 : Option Addr) (n1 c1 : Nat), cs = [.int .u16 (f).src, .int .u16 (f).dst, .bool (f).bare, .slice A1 n1 c1] ∧ f.Ok ∧ Bs w A1 n1 c1 f.dat ∧ n1 ≤ 140737488351232 := by
  have hu := Try.underlying37
  obtain ⟨xs, n, hcl, hx, hxl, hi⟩ := open_structT hu (by kernel_rfl) h
  rw [hx] at hsz
  rw [show (Try.prog.cellsOf 37) = 4 from by kernel_rfl] at hcl
  obtain ⟨v0, v1, v2, v3, rfl⟩ := list4 hcl
  obtain ⟨y0, y1, y2, y3, rfl⟩ := list4 (by simpa using hxl)
  obtain ⟨a0, rfl, b0l, b0h⟩ := trod_u16 (t := 22) Try.underlying22 (by simpa using hi 0 _ rfl)
  obtain ⟨a1, rfl, b1l, b1h⟩ := trod_u16 (t := 22) Try.underlying22 (by simpa using hi 1 _ rfl)
  obtain ⟨a2, rfl⟩ := trod_yes (t := 4) Try.underlying4 (by simpa using hi 2 _ rfl)
  obtain ⟨A1, n1, c1, l1, rfl, k1, z1⟩ := trod_bytesT (t := 24) Try.underlying24 Try.underlying5 (by kernel_rfl) (by kernel_rfl) (weights_field (j := 3) (y := y3.1) hu hsz rfl (by simp)) (by simpa using hi 3 _ rfl)
  exact ⟨⟨a0, a1, a2, l1⟩, A1, n1, c1, rfl, ⟨⟨b0l, b0h⟩, ⟨b1l, b1h⟩⟩, k1, z1⟩
theorem open_dgm {r : Reach} {b0 : Nat} {v : Value} {d : DataW H} {ps : List MemPlace} (hval : Value.okWide Try.prog w r b0 37 v) (hd : DataW.Trod enc Try.prog w base spare held 37 v d ps)
    (hsz : ∀ m ∈ d.weights Try.prog 37, m ≤ reachBytes) :
    ∃ (f : Dgm) (A1 : Option Addr) (n1 c1 : Nat), v = (.agg #[.int .u16 (f).src, .int .u16 (f).dst, .bool (f).bare, .slice A1 n1 c1]) ∧ f.Ok ∧ Bs w A1 n1 c1 f.dat ∧ n1 ≤ 140737488351232 := by
  obtain ⟨cs, rfl, -⟩ := okWide_struct Try.underlying37 hval
  obtain ⟨fuel, hf⟩ := hd
  obtain ⟨f, A1, n1, c1, he, h1, h2, h3⟩ := open_dgmT hf hsz
  refine ⟨f, A1, n1, c1, ?_, h1, h2, h3⟩
  congr 1
  apply Array.ext'
  simpa [Value.cells] using he
/-- Two datagrams in an array. -/
theorem open_dgm2 {r : Reach} {b0 : Nat} {v : Value} {d : DataW H} {ps : List MemPlace} (hval : Value.okWide Try.prog w r b0 54 v) (hd : DataW.Trod enc Try.prog w base spare held 54 v d ps)
    (hsz : ∀ m ∈ d.weights Try.prog 54, m ≤ reachBytes) :
    ∃ (f : Dgm) (A1 : Option Addr) (n1 c1 : Nat) (g : Dgm) (A2 : Option Addr) (n2 c2 : Nat), v = .agg ([.int .u16 (f).src, .int .u16 (f).dst, .bool (f).bare, .slice A1 n1 c1] ++ [.int .u16 (g).src, .int .u16 (g).dst, .bool (g).bare, .slice A2 n2 c2] : List Value).toArray ∧ f.Ok ∧ Bs w A1 n1 c1 f.dat ∧ n1 ≤ 140737488351232 ∧ g.Ok ∧ Bs w A2 n2 c2 g.dat ∧ n2 ≤ 140737488351232 := by
  have hu := Try.underlying54
  unfold Value.okWide at hval
  rw [hu] at hval
  obtain ⟨cs, rfl, -, -⟩ := hval
  obtain ⟨fuel, hf⟩ := hd
  obtain ⟨xs, m, -, hx, hl, hxl, hi⟩ := DataW.trod_array hu hf
  injection hx with hx1 hx2
  subst hx1
  have c4 : (Try.prog.cellsOf 37) = 4 := by kernel_rfl
  have c8 : (Try.prog.cellsOf 54) = 8 := by kernel_rfl
  rw [c4] at hi
  have e0 := hi 0 (by omega)
  have e1 := hi 1 (by omega)
  have x0 : xs[0]? = some xs[0] := List.getElem?_eq_getElem (by omega)
  have x1 : xs[1]? = some xs[1] := List.getElem?_eq_getElem (by omega)
  rw [x0] at e0
  rw [x1] at e1
  obtain ⟨f, A1, n1, c1, h1, h2, h3, h4⟩ := open_dgmT e0 (weights_arr (j := 0) hu hsz (by simp [x0]))
  obtain ⟨g, A2, n2, c2, g1, g2, g3, g4⟩ := open_dgmT e1 (weights_arr (j := 1) hu hsz (by simp [x1]))
  refine ⟨f, A1, n1, c1, g, A2, n2, c2, ?_, h2, h3, h4, g2, g3, g4⟩
  congr 1
  apply Array.ext'
  simp only [Value.cells] at h1 g1 hl
  rw [c8] at hl
  have : cs.toList = cs.toList.take 4 ++ (cs.toList.drop 4).take 4 := by
    conv => lhs; rw [← List.take_append_drop 4 cs.toList]
    congr 1
    exact (List.take_of_length_le (by simp only [List.length_drop]; omega)).symm
  rw [this]
  simp only [Nat.zero_mul, List.drop_zero, Nat.one_mul] at h1 g1
  rw [h1, g1]
/-- Numbers of 32 bits in memory. -/
structure Ws (w : World) (A : Option Addr) (n c : Nat) (l : List Int) : Prop where
  len : l.length = n
  cap : n ≤ c
  max : n ≤ 35184372088832
  nil : A = none → c = 0
  ok : ∀ x ∈ l, 0 ≤ x ∧ x ≤ 4294967295
  rd : 0 < n → ∃ b off, A = some ⟨b, off, none⟩ ∧ ∀ j, j < n → w.cell? ⟨b, off + j, none⟩ = some (.int .u32 (l.getD j 0))
theorem Ws.below {w w' : World} {A : Option Addr} {n c : Nat} {l : List Int} (h : Ws w A n c l) (hb : Below w.heap.size w w') : Ws w' A n c l :=
  ⟨h.len, h.cap, h.max, h.nil, h.ok, fun hn => by
    obtain ⟨b, off, e, hc⟩ := h.rd hn
    exact ⟨b, off, e, fun j hj => (hb.cell (World.block_lt_of_cell? w _ (hc j hj))).trans (hc j hj)⟩⟩
theorem Ws.none_ (w : World) : Ws w none 0 0 [] := ⟨rfl, Nat.zero_le _, by omega, fun _ => rfl, (fun x h => by cases h), fun h => absurd h (by omega)⟩
theorem open_u32s {r : Reach} {b0 : Nat} {v : Value} {d : DataW H} {ps : List MemPlace} (hval : Value.okWide Try.prog w r b0 45 v) (hd : DataW.Trod enc Try.prog w base spare held 45 v d ps)
    (hsz : ∀ m ∈ d.weights Try.prog 45, m ≤ reachBytes) :
    ∃ (A : Option Addr) (n c : Nat) (l : List Int), v = .slice A n c ∧ Ws w A n c l := by
  have hu := Try.underlying45
  obtain ⟨A0, n0, c0, rfl⟩ := okWide_slice hu hval
  obtain ⟨fuel, hf⟩ := hd
  rcases open_ints hu Try.underlying23 (by kernel_rfl) hf with ⟨hcs, _⟩ | ⟨a, len, cap, zs, hcs, _, hl, hm, hz, hx, hcell, hwz⟩
  · simp only [Value.cells, List.cons.injEq, and_true] at hcs
    exact ⟨none, 0, 0, [], by simpa using hcs, Ws.none_ w⟩
  · have hcs' : Value.slice A0 n0 c0 = .slice (some a) len cap := by simpa [Value.cells] using hcs
    rw [hcs']
    injection hx with hx1 hx2
    have hzl : len ≤ zs.length := by rw [hz]; split <;> omega
    have hn : len ≤ 35184372088832 := by
      have h1 := hsz (((lits (H := H) .u32 (zs.take len)).length + (lits (H := H) .u32 (zs.drop len)).length) * Try.prog.bytesOf 23) (by rw [hx1]; simp [DataW.weights, hu])
      rw [show Try.prog.bytesOf 23 = 4 from by kernel_rfl] at h1
      simp only [reachBytes, lits, List.length_map, List.length_take, List.length_drop] at h1
      omega
    obtain ⟨b, off, spot⟩ := a
    refine ⟨some ⟨b, off, spot⟩, len, cap, zs.take len, rfl, ⟨by simp; omega, hl, hn, (fun h => by cases h), fun x hx => ?_, fun h0 => ?_⟩⟩
    · have := hwz x (List.mem_of_mem_take hx)
      simpa [Lit.wf, IntKind.min, IntKind.max, IntKind.signed, IntKind.bits] using this
    · have hspot : spot = none := by
        have := hcell 0 (by omega)
        simpa [Addr.add] using World.cell?_spot this
      subst hspot
      refine ⟨b, off, rfl, fun j hj => ?_⟩
      have h1 := hcell j (by omega)
      have ha : (⟨b, off, none⟩ : Addr).add j = ⟨b, off + j, none⟩ := by unfold Addr.add; split <;> simp_all
      rw [ha] at h1
      rw [h1]
      congr 2
      rw [List.getD_eq_getElem?_getD, List.getD_eq_getElem?_getD, List.getElem?_take, if_pos hj]
end
end Go.Proofs.Ytjjhnjkmoogloaa

/- Plain laws of segments and datagrams: what is built is read back; a changed bit is told. -/
namespace Go.Proofs.Ytjjhnjkmoogloaa
open Go.RowKit
set_option linter.unusedVariables false
set_option linter.unusedSimpArgs false
set_option maxRecDepth 100000

/-! ### Options -/
theorem nx_opt {o : Opt} (ho : o.Ok) (hb : badO o = false) (r : List UInt8) : nx (optB o ++ r) = some (some (o, (optB o).length)) := by
  obtain ⟨k, d⟩ := o
  obtain ⟨k0, k1⟩ := ho.kind
  unfold badO at hb
  simp only [Bool.or_eq_false_iff, Bool.and_eq_false_iff, beq_eq_false_iff_ne, decide_eq_false_iff_not] at hb k0 k1
  obtain ⟨⟨b0, b1⟩, b2⟩ := hb
  by_cases h1 : k = 1
  · subst h1
    have hd : d = [] := by
      rcases b1 with b1 | b1
      · exact absurd rfl b1
      · exact List.eq_nil_of_length_eq_zero (by omega)
    subst hd
    unfold nx optB
    simp [bt, ub]
  · have e : optB ⟨k, d⟩ ++ r = ub k :: ub (2 + (d.length : Int)) :: (d ++ r) := by unfold optB; simp [h1]
    have t0 : bt (ub k :: ub (2 + (d.length : Int)) :: (d ++ r)) 0 = k := by show ((ub k).toNat : Int) = k; rw [ub_val]; omega
    have t1 : bt (ub k :: ub (2 + (d.length : Int)) :: (d ++ r)) 1 = 2 + (d.length : Int) := by show ((ub (2 + (d.length : Int))).toNat : Int) = _; rw [ub_val]; omega
    rw [e]
    unfold nx
    rw [t0, t1, if_neg (by simp), if_neg b0, if_neg h1, if_neg (by simp; omega)]
    have e2 : (2 + (d.length : Int)).toNat = d.length + 2 := by omega
    rw [e2]
    have e3 : (optB ⟨k, d⟩).length = d.length + 2 := by unfold optB; simp [h1]
    rw [e3]
    simp
theorem optsP_zs (n : Nat) : optsP (zs n) = some [] := by
  refine optsP_end ?_
  unfold nx
  cases n with
  | zero => rfl
  | succ n =>
    rw [if_neg (by simp [zs]), if_pos (bt_zs _ _), if_pos (by simp [allZ, zs])]
theorem optsP_optL : ∀ {os : List Opt}, (∀ o ∈ os, o.Ok) → (∀ o ∈ os, badO o = false) → ∀ n, optsP (optsB os ++ zs n) = some os
  | [], _, _, n => by simpa [optsB] using optsP_zs n
  | o :: os, h1, h2, n => by
    have e : optsB (o :: os) ++ zs n = optB o ++ (optsB os ++ zs n) := by simp [optsB]
    rw [e, optsP_some (nx_opt (h1 o (by simp)) (h2 o (by simp)) _), List.drop_left, optsP_optL (fun o' h => h1 o' (by simp [h])) (fun o' h => h2 o' (by simp [h])) n]
    rfl
theorem okOs_opts {os : List Opt} (h1 : ∀ o ∈ os, o.Ok) (h : okOs os = true) : optsP (optL os) = some os := by
  unfold okOs at h
  simp only [Bool.and_eq_true, List.all_eq_true, decide_eq_true_eq] at h
  unfold optL
  exact optsP_optL h1 (fun o ho => by simpa using h.1 o ho) _

/-! ### The sum -/
theorem pseudo_len (s d p n : Int) : (pseudo s d p n).length = 12 := rfl
theorem put16_behind {a b : List UInt8} {i : Nat} {v : Int} (h : i + 2 ≤ b.length) : put16 (a ++ b) ((a.length + i : Nat) : Int) v = a ++ put16 b i v := by
  rw [put16_eq (by rw [List.length_append]; omega), put16_eq h, List.set_append_right _ _ (by omega), List.set_append_right _ _ (by omega)]
  rw [show a.length + i - a.length = i from by omega, show a.length + i + 1 - a.length = i + 1 from by omega]
theorem psum_z {p : Pkt} {pr : Int} {l : List UInt8} {j : Nat} (h : 2 * j + 2 ≤ l.length) (h0 : wd l j = 0) (v : Int) (v0 : 0 ≤ v) (v1 : v ≤ 65535) :
    psum p pr (put16 l (2 * j : Nat) v) = csum (put16 (pseudo p.src p.dst pr l.length ++ l) (2 * (6 + j) : Nat) v) ∧ 2 * (6 + j) + 2 ≤ (pseudo p.src p.dst pr l.length ++ l).length ∧ wd (pseudo p.src p.dst pr l.length ++ l) (6 + j) = 0 := by
  refine ⟨?_, by rw [List.length_append, pseudo_len]; omega, ?_⟩
  · unfold psum
    rw [put16_length, show (2 * (6 + j) : Nat) = (pseudo p.src p.dst pr l.length).length + 2 * j from by rw [pseudo_len]; omega, put16_behind h]
  · rw [wd_append_right (m := 6) _ rfl]; exact h0
theorem psum_good {p : Pkt} {pr : Int} {l : List UInt8} {j : Nat} (h : 2 * j + 2 ≤ l.length) (h0 : wd l j = 0) : psum p pr (put16 l (2 * j : Nat) (psum p pr l)) = 0 := by
  obtain ⟨e, h1, h2⟩ := psum_z (p := p) (pr := pr) h h0 (psum p pr l) (csum_lo _) (csum_hi _)
  rw [e]
  exact good_put h1 h2
theorem psum_good2 {p : Pkt} {pr : Int} {l : List UInt8} {j : Nat} (h : 2 * j + 2 ≤ l.length) (h0 : wd l j = 0) (hs : psum p pr l = 0) : psum p pr (put16 l (2 * j : Nat) 65535) = 0 := by
  obtain ⟨e, h1, h2⟩ := psum_z (p := p) (pr := pr) h h0 65535 (by omega) (by omega)
  rw [e]
  obtain ⟨t1, t2⟩ := (csum_zero _).1 hs
  rw [csum_zero, ws_put16 (by omega) (by omega) h1, h2]
  have t3 := ws_lo (pseudo p.src p.dst pr l.length ++ l)
  generalize ws (pseudo p.src p.dst pr l.length ++ l) = W at t1 t2 t3 ⊢
  exact ⟨by omega, by omega⟩
/-- The sum where an address has another byte. -/
theorem psum_flip {a b p : Int} {n : Int} {l : List UInt8} {j : Nat} {x : UInt8} (hs : csum (pseudo a b p n ++ l) = 0) (hj : j < 12) (hx : (x.toNat : Int) ≠ bt (pseudo a b p n) j) : csum ((pseudo a b p n).set j x ++ l) ≠ 0 := by
  rw [← List.set_append_left _ _ (by rw [pseudo_len]; exact hj)]
  exact csum_flip (by rw [List.length_append, pseudo_len]; omega) (by rw [bt_append_left _ (by rw [pseudo_len]; exact hj)]; exact hx) hs

/-! ### Segments -/
def hX (s : Seg) (c : Int) : List UInt8 := [ub (s.src / 256), ub s.src, ub (s.dst / 256), ub s.dst, ub (s.seq / 16777216), ub (s.seq / 65536), ub (s.seq / 256), ub s.seq, ub (s.ack / 16777216), ub (s.ack / 65536), ub (s.ack / 256), ub s.ack, ub (((20 + (optL s.opts).length : Nat) : Int) / 4 * 16), ub s.flags, ub (s.win / 256), ub s.win, ub (c / 256), ub c, ub (s.urg / 256), ub s.urg]
theorem hX_len (s : Seg) (c : Int) : (hX s c).length = 20 := rfl
theorem sL_hX (s : Seg) : sL s = hX s 0 ++ (optL s.opts ++ s.dat) := by
  have e0 : ub 0 = 0 := by decide
  unfold sL hX two four
  simp [e0]
theorem hX_put (s : Seg) (c d : Int) : put16 (hX s c) ((16 : Nat) : Int) d = hX s d := by
  rw [put16_eq (by rw [hX_len]; omega)]
  simp [hX]
theorem sS_hX (p : Pkt) (s : Seg) : sS p s = hX s (psum p 6 (sL s)) ++ (optL s.opts ++ s.dat) := by
  unfold sS
  conv => lhs; arg 1; rw [sL_hX]
  rw [show (16 : Int) = ((16 : Nat) : Int) from rfl, put16_append (by rw [hX_len]; omega), hX_put]
theorem hX_at {s : Seg} (hs : s.Ok) (c : Int) (r : List UInt8) (hn : (optL s.opts).length ≤ 40) :
    get16 (hX s c ++ r) 0 = s.src ∧ get16 (hX s c ++ r) 2 = s.dst ∧ get32 (hX s c ++ r) 4 = s.seq ∧ get32 (hX s c ++ r) 8 = s.ack ∧ bt (hX s c ++ r) 12 = (20 + ((optL s.opts).length : Int)) / 4 * 16 ∧
    bt (hX s c ++ r) 13 = s.flags ∧ get16 (hX s c ++ r) 14 = s.win ∧ get16 (hX s c ++ r) 18 = s.urg := by
  obtain ⟨⟨o1, o1'⟩, ⟨o2, o2'⟩, ⟨o3, o3'⟩, ⟨o4, o4'⟩, ⟨o5, o5'⟩, ⟨o6, o6'⟩, ⟨o7, o7'⟩, -⟩ := hs
  have hl : (hX s c ++ r).length = 20 + r.length := by rw [List.length_append, hX_len]
  refine ⟨?_, ?_, ?_, ?_, ?_, ?_, ?_, ?_⟩
  · rw [get16_in (by omega) (by omega)]
    show ((ub _).toNat : Int) * 256 + ((ub _).toNat : Int) = _
    rw [ub_val, ub_val]; omega
  · rw [get16_in (by omega) (by omega)]
    show ((ub _).toNat : Int) * 256 + ((ub _).toNat : Int) = _
    rw [ub_val, ub_val]; omega
  · rw [get32_in (by omega) (by omega), get16_in (by omega) (by omega), get16_in (by omega) (by omega)]
    show (((ub _).toNat : Int) * 256 + ((ub _).toNat : Int)) * 65536 + (((ub _).toNat : Int) * 256 + ((ub _).toNat : Int)) = _
    rw [ub_val, ub_val, ub_val, ub_val]; omega
  · rw [get32_in (by omega) (by omega), get16_in (by omega) (by omega), get16_in (by omega) (by omega)]
    show (((ub _).toNat : Int) * 256 + ((ub _).toNat : Int)) * 65536 + (((ub _).toNat : Int) * 256 + ((ub _).toNat : Int)) = _
    rw [ub_val, ub_val, ub_val, ub_val]; omega
  · show ((ub _).toNat : Int) = _
    rw [ub_val]; omega
  · show ((ub _).toNat : Int) = _
    rw [ub_val]; omega
  · rw [get16_in (by omega) (by omega)]
    show ((ub _).toNat : Int) * 256 + ((ub _).toNat : Int) = _
    rw [ub_val, ub_val]; omega
  · rw [get16_in (by omega) (by omega)]
    show ((ub _).toNat : Int) * 256 + ((ub _).toNat : Int) = _
    rw [ub_val, ub_val]; omega
theorem sL_wd (s : Seg) : wd (sL s) 8 = 0 := by rw [sL_hX]; rfl
theorem sbE_zero {p : Pkt} {s : Seg} (h : sbE p s = 0) : okOs s.opts = true ∧ wiE p (sN s) = 0 := by
  unfold sbE at h
  split at h
  · rename_i h1; exact ⟨h1, h⟩
  · cases h
theorem wiE_zero {p : Pkt} {n : Nat} (h : wiE p n = 0) : p.opt.length ≤ 40 ∧ p.opt.length % 4 = 0 ∧ 20 + p.opt.length + n ≤ 65535 := by
  unfold wiE at h
  split at h
  · omega
  · split at h <;> omega
theorem sS_sum (p : Pkt) (s : Seg) : psum p 6 (sS p s) = 0 := by
  unfold sS
  exact psum_good (j := 8) (by rw [sL_len]; unfold sN; omega) (sL_wd s)
/-- The form of bytes that a segment gives, but for what stands behind its first 20 (the flags of the test). -/
theorem tc_form {p : Pkt} {s : Seg} (hs : s.Ok) (h : sbE p s = 0) (q : Pkt) (hq : q.proto = 6) (hd : q.dat = sS p s) (hsum : psum q 6 q.dat = 0) : tcE q = 0 ∧ tcS q = s := by
  obtain ⟨hok, hw⟩ := sbE_zero h
  have h40 := okOs_len hok
  have h4 := (optL_len s.opts).2
  have hop := okOs_opts hs.opts hok
  obtain ⟨c, hc⟩ : ∃ c, psum p 6 (sL s) = c := ⟨_, rfl⟩
  have hf := sS_hX p s
  rw [hc] at hf
  obtain ⟨f0, f2, f4, f8, f12, f13, f14, f18⟩ := hX_at hs c (optL s.opts ++ s.dat) h40
  rw [← hf, ← hd] at f0 f2 f4 f8 f12 f13 f14 f18
  have hl : q.dat.length = 20 + (optL s.opts).length + s.dat.length := by rw [hd, sS_len]; rfl
  have hh : hdS q.dat = 20 + (optL s.opts).length := by unfold hdS; rw [f12]; omega
  have ht : (q.dat.take (20 + (optL s.opts).length)).drop 20 = optL s.opts := by
    rw [hd, hf, ← List.append_assoc, List.take_left' (by rw [List.length_append, hX_len]), List.drop_left' (hX_len s c)]
  have hdr : q.dat.drop (20 + (optL s.opts).length) = s.dat := by
    rw [hd, hf, ← List.append_assoc, List.drop_left' (by rw [List.length_append, hX_len])]
  have e : tcE q = 0 := by
    unfold tcE
    rw [hh, ht, hop, if_neg (by simp [hq]), if_neg (by omega), if_neg (by rw [f12]; omega), if_neg (by omega), if_neg (by simp [hsum]), if_neg (by simp)]
  refine ⟨e, ?_⟩
  unfold tcS
  rw [if_pos e]
  unfold rdS
  rw [hh, ht, hop, hdr, f0, f2, f4, f8, f13, f14, f18]
  rfl
theorem sb_back {p : Pkt} {s : Seg} (hs : s.Ok) (h : sbE p s = 0) : tcE (sbP p s) = 0 ∧ tcS (sbP p s) = s ∧ rightP (sbP p s) = true ∧ (sbP p s).src = p.src ∧ (sbP p s).dst = p.dst ∧ (sbP p s).id = p.id ∧ (sbP p s).opt = p.opt := by
  have e : sbP p s = { p with proto := 6, dat := sS p s } := by unfold sbP; rw [if_pos h]
  have hw := wiE_zero (sbE_zero h).2
  have := tc_form hs h (sbP p s) (by rw [e]) (by rw [e]) (by rw [e]; exact sS_sum p s)
  refine ⟨this.1, this.2, ?_, by rw [e], by rw [e], by rw [e], by rw [e]⟩
  rw [e]; unfold rightP
  simp [sS_len]
  omega
/-- A changed byte of a segment is told. -/
theorem sb_flip {p : Pkt} {s : Seg} (hs : s.Ok) (h : sbE p s = 0) (q : Pkt) (h6 : q.proto = 6) (h1 : q.src = p.src) (h2 : q.dst = p.dst) {j : Nat} {x : UInt8} (hj : j < sN s) (hx : (x.toNat : Int) ≠ bt (sS p s) j) (hd : q.dat = (sS p s).set j x) : tcE q ≠ 0 := by
  intro he
  have hl : q.dat.length = (sS p s).length := by rw [hd, List.length_set]
  have hsum : psum q 6 q.dat = 0 := by
    unfold tcE at he
    split at he
    · cases he
    · split at he
      · cases he
      · split at he
        · cases he
        · split at he
          · cases he
          · split at he
            · cases he
            · rename_i h5
              exact Classical.not_not.1 h5
  unfold psum at hsum
  rw [hl, h1, h2, hd] at hsum
  have hg := sS_sum p s
  unfold psum at hg
  have e : (pseudo p.src p.dst 6 (sS p s).length ++ (sS p s).set j x) = (pseudo p.src p.dst 6 (sS p s).length ++ sS p s).set (12 + j) x := by
    rw [List.set_append_right _ _ (by rw [pseudo_len]; omega), pseudo_len]; congr 2; omega
  rw [e] at hsum
  refine csum_flip (by rw [List.length_append, pseudo_len, sS_len]; omega) ?_ hg hsum
  rw [show 12 + j = (pseudo p.src p.dst 6 (sS p s).length).length + j from by rw [pseudo_len], bt_append_right]
  exact hx
/-- From other addresses it is refused for its sum. -/
theorem sb_where {p : Pkt} {s : Seg} (hs : s.Ok) (h : sbE p s = 0) (q : Pkt) (h6 : q.proto = 6) (hd : q.dat = sS p s) (hn : psum q 6 (sS p s) ≠ 0) : tcE q = 5 := by
  obtain ⟨hok, hw⟩ := sbE_zero h
  have h40 := okOs_len hok
  have h4 := (optL_len s.opts).2
  obtain ⟨c, hc⟩ : ∃ c, psum p 6 (sL s) = c := ⟨_, rfl⟩
  have hf := sS_hX p s
  rw [hc] at hf
  obtain ⟨f0, f2, f4, f8, f12, f13, f14, f18⟩ := hX_at hs c (optL s.opts ++ s.dat) h40
  rw [← hf, ← hd] at f12
  have hl : q.dat.length = 20 + (optL s.opts).length + s.dat.length := by rw [hd, sS_len]; rfl
  have hh : hdS q.dat = 20 + (optL s.opts).length := by unfold hdS; rw [f12]; omega
  unfold tcE
  rw [hh, if_neg (by simp [h6]), if_neg (by omega), if_neg (by rw [f12]; omega), if_neg (by omega), if_pos (by rw [hd]; exact hn)]

/-! ### Datagrams -/
theorem dL_at {d : Dgm} (hd : d.Ok) (h : 8 + d.dat.length ≤ 65535) : get16 (dL d) 0 = d.src ∧ get16 (dL d) 2 = d.dst ∧ get16 (dL d) 4 = 8 + (d.dat.length : Int) ∧ get16 (dL d) 6 = 0 ∧ (dL d).drop 8 = d.dat := by
  obtain ⟨⟨a0, a1⟩, ⟨b0, b1⟩⟩ := hd
  have e : dL d = [ub (d.src / 256), ub d.src, ub (d.dst / 256), ub d.dst, ub ((8 + (d.dat.length : Int)) % 65536 / 256), ub ((8 + (d.dat.length : Int)) % 65536), ub (0 / 256), ub 0] ++ d.dat := by simp [dL, twos, two]
  rw [e]
  have hl : ([ub (d.src / 256), ub d.src, ub (d.dst / 256), ub d.dst, ub ((8 + (d.dat.length : Int)) % 65536 / 256), ub ((8 + (d.dat.length : Int)) % 65536), ub (0 / 256), ub 0] ++ d.dat).length = 8 + d.dat.length := by simp; omega
  refine ⟨?_, ?_, ?_, ?_, ?_⟩
  · rw [get16_in (by omega) (by omega)]
    show ((ub _).toNat : Int) * 256 + ((ub _).toNat : Int) = _
    rw [ub_val, ub_val]; omega
  · rw [get16_in (by omega) (by omega)]
    show ((ub _).toNat : Int) * 256 + ((ub _).toNat : Int) = _
    rw [ub_val, ub_val]; omega
  · rw [get16_in (by omega) (by omega)]
    show ((ub _).toNat : Int) * 256 + ((ub _).toNat : Int) = _
    rw [ub_val, ub_val]; omega
  · rw [get16_in (by omega) (by omega)]
    show ((ub _).toNat : Int) * 256 + ((ub _).toNat : Int) = _
    rw [ub_val, ub_val]; omega
  · exact List.drop_left' (by simp)
theorem dZ_ok (p : Pkt) (d : Dgm) : 1 ≤ dZ p d ∧ dZ p d ≤ 65535 := by
  have h0 := csum_lo (pseudo p.src p.dst 17 (dL d).length ++ dL d)
  have h1 := csum_hi (pseudo p.src p.dst 17 (dL d).length ++ dL d)
  have e : dZ p d = if csum (pseudo p.src p.dst 17 (dL d).length ++ dL d) = 0 then 65535 else csum (pseudo p.src p.dst 17 (dL d).length ++ dL d) := rfl
  rw [e]
  split <;> omega
theorem dL_wd {d : Dgm} (hd : d.Ok) (h : 8 + d.dat.length ≤ 65535) : wd (dL d) 3 = 0 := by
  have := (dL_at hd h).2.2.2.1
  rw [← get16_wd (l := dL d) (j := 3) (by rw [dL_len]; omega)]
  exact this
theorem dS_sum {p : Pkt} {d : Dgm} (hd : d.Ok) (h : 8 + d.dat.length ≤ 65535) (hb : d.bare = false) : psum p 17 (dS p d) = 0 := by
  have hl : 2 * 3 + 2 ≤ (dL d).length := by rw [dL_len]; omega
  unfold dS
  rw [hb]
  show psum p 17 (put16 (dL d) ((2 * 3 : Nat) : Int) (dZ p d)) = 0
  unfold dZ
  split
  · rename_i h0; exact psum_good2 hl (dL_wd hd h) h0
  · exact psum_good hl (dL_wd hd h)
theorem dS_at {p : Pkt} {d : Dgm} (hd : d.Ok) (h : 8 + d.dat.length ≤ 65535) : get16 (dS p d) 0 = d.src ∧ get16 (dS p d) 2 = d.dst ∧ get16 (dS p d) 4 = 8 + (d.dat.length : Int) ∧ (get16 (dS p d) 6 == 0) = d.bare ∧ (dS p d).drop 8 = d.dat := by
  obtain ⟨h0, h2, h4, h6, h8⟩ := dL_at hd h
  have hl := dL_len d
  obtain ⟨z0, z1⟩ := dZ_ok p d
  unfold dS
  cases hb : d.bare with
  | true => exact ⟨h0, h2, h4, by simpa using h6, h8⟩
  | false =>
    show get16 (put16 (dL d) ((6 : Nat) : Int) (dZ p d)) ((0 : Nat) : Int) = _ ∧ get16 (put16 (dL d) ((6 : Nat) : Int) (dZ p d)) ((2 : Nat) : Int) = _ ∧ get16 (put16 (dL d) ((6 : Nat) : Int) (dZ p d)) ((4 : Nat) : Int) = _ ∧ (get16 (put16 (dL d) ((6 : Nat) : Int) (dZ p d)) ((6 : Nat) : Int) == 0) = _ ∧ (put16 (dL d) ((6 : Nat) : Int) (dZ p d)).drop 8 = _
    rw [get16_put16_far (by omega) (by omega) (by omega), get16_put16_far (by omega) (by omega) (by omega), get16_put16_far (by omega) (by omega) (by omega), get16_put16 (by omega) z1 (by omega)]
    refine ⟨h0, h2, h4, by simp; omega, ?_⟩
    rw [put16_eq (by omega), List.drop_set_of_lt (by omega), List.drop_set_of_lt (by omega)]
    exact h8
theorem ud_form {p q : Pkt} {d : Dgm} (hd : d.Ok) (h : 8 + d.dat.length ≤ 65535) (h17 : q.proto = 17) (hq : q.dat = dS p d) (hs : d.bare = true ∨ psum q 17 q.dat = 0) : udE q = 0 ∧ udD q = d := by
  obtain ⟨h0, h2, h4, h6, h8⟩ := dS_at (p := p) hd h
  rw [← hq] at h0 h2 h4 h6 h8
  have hl : q.dat.length = 8 + d.dat.length := by rw [hq, dS_len]
  have e : udE q = 0 := by
    unfold udE
    rw [if_neg (by simp [h17]), if_neg (by omega), if_neg (by rw [h4, hl]; simp), if_neg]
    rintro ⟨h9, h10⟩
    rcases hs with hs | hs
    · rw [hs] at h6
      exact h9 (by simpa using h6)
    · exact h10 hs
  refine ⟨e, ?_⟩
  unfold udD
  rw [if_pos e]
  unfold rdD
  rw [h0, h2, h6, h8]
theorem ud_where {p q : Pkt} {d : Dgm} (hd : d.Ok) (h : 8 + d.dat.length ≤ 65535) (h17 : q.proto = 17) (hq : q.dat = dS p d) (hb : d.bare = false) (hs : psum q 17 (dS p d) ≠ 0) : udE q = 5 := by
  obtain ⟨h0, h2, h4, h6, h8⟩ := dS_at (p := p) hd h
  rw [← hq] at h4 h6
  have hl : q.dat.length = 8 + d.dat.length := by rw [hq, dS_len]
  rw [hb] at h6
  unfold udE
  rw [if_neg (by simp [h17]), if_neg (by omega), if_neg (by rw [h4, hl]; simp), if_pos ⟨by simpa using h6, by rw [hq]; exact hs⟩]
theorem db_form {p : Pkt} {d : Dgm} (h : dbE p d = 0) : dbP p d = { p with proto := 17, dat := dS p d } ∧ p.opt.length ≤ 40 ∧ p.opt.length % 4 = 0 ∧ 20 + p.opt.length + (8 + d.dat.length) ≤ 65535 := by
  have hw := wiE_zero h
  refine ⟨?_, hw⟩
  unfold dbP withP
  rw [dS_len]
  unfold dbE at h
  rw [if_pos h]
theorem db_back {p : Pkt} {d : Dgm} (hd : d.Ok) (h : dbE p d = 0) : udE (dbP p d) = 0 ∧ udD (dbP p d) = d ∧ rightP (dbP p d) = true ∧ (dbP p d).ttl = p.ttl := by
  obtain ⟨e, h1, h2, h3⟩ := db_form h
  have h8 : 8 + d.dat.length ≤ 65535 := by omega
  have hs : d.bare = true ∨ psum (dbP p d) 17 (dbP p d).dat = 0 := by
    cases hb : d.bare with
    | true => exact .inl rfl
    | false => right; rw [e]; exact dS_sum hd h8 hb
  have := ud_form hd h8 (q := dbP p d) (p := p) (by rw [e]) (by rw [e]) hs
  refine ⟨this.1, this.2, ?_, by rw [e]⟩
  rw [e]; unfold rightP
  simp [dS_len]
  omega
end Go.Proofs.Ytjjhnjkmoogloaa

/- A changed bit of a number of 32 bits changes one of its bytes. -/
namespace Go.Proofs.Ytjjhnjkmoogloaa
open Go.RowKit
set_option linter.unusedVariables false
set_option linter.unusedSimpArgs false
set_option maxRecDepth 100000

theorem xor_byte (a c k : Nat) : (a ^^^ c) / 2 ^ (8 * k) % 256 = (a / 2 ^ (8 * k) % 256) ^^^ (c / 2 ^ (8 * k) % 256) := by
  rw [show (256 : Nat) = 2 ^ 8 from rfl, ← Nat.shiftRight_eq_div_pow, ← Nat.shiftRight_eq_div_pow, ← Nat.shiftRight_eq_div_pow, Nat.shiftRight_xor_distrib, Nat.xor_mod_two_pow]
theorem pow_byte : ∀ (r : Fin 32) (k : Fin 4), 2 ^ r.val / 2 ^ (8 * k.val) % 256 = if r.val / 8 = k.val then 2 ^ (r.val % 8) else 0 := by decide +kernel
theorem xor_ne8 : ∀ (b : Fin 256) (j : Fin 8), b.val ^^^ 2 ^ j.val ≠ b.val ∧ b.val ^^^ 2 ^ j.val < 256 := by decide +kernel
theorem ub_nat (n : Nat) : ub (n : Int) = UInt8.ofNat (n % 256) := by
  unfold ub
  congr 1
theorem four_nat (n : Nat) : four (n : Int) = [UInt8.ofNat (n / 2 ^ (8 * 3) % 256), UInt8.ofNat (n / 2 ^ (8 * 2) % 256), UInt8.ofNat (n / 2 ^ (8 * 1) % 256), UInt8.ofNat (n / 2 ^ (8 * 0) % 256)] := by
  unfold four
  rw [show (n : Int) / 16777216 = ((n / 16777216 : Nat) : Int) from by omega, show (n : Int) / 65536 = ((n / 65536 : Nat) : Int) from by omega, show (n : Int) / 256 = ((n / 256 : Nat) : Int) from by omega]
  simp only [ub_nat]
  simp
theorem four_flip {a : Int} (a0 : 0 ≤ a) (a1 : a ≤ 4294967295) {r : Nat} (hr : r < 32) : 0 ≤ bits .xor .u32 a (2 ^ r) ∧ bits .xor .u32 a (2 ^ r) ≤ 4294967295 ∧ ∃ j y, j < 4 ∧ four (bits .xor .u32 a (2 ^ r)) = (four a).set j y ∧ (y.toNat : Int) ≠ bt (four a) j := by
  obtain ⟨A, rfl⟩ := Int.eq_ofNat_of_zero_le a0
  have hp : (2 : Nat) ^ r < 4294967296 := by
    have : (2 : Nat) ^ r < 2 ^ 32 := Nat.pow_lt_pow_right (by omega) hr
    simpa using this
  have e : bits .xor .u32 (A : Int) ((2 : Int) ^ r) = ((A ^^^ 2 ^ r : Nat) : Int) := by
    have := u32_xor_nat A (2 ^ r) (by omega) hp
    rw [← this]; congr 1
  rw [e]
  have hx : A ^^^ 2 ^ r < 2 ^ 32 := Nat.xor_lt_two_pow (by simp; omega) (by simpa using hp)
  refine ⟨by omega, by simp at hx; omega, ?_⟩
  rw [four_nat, four_nat]
  have hb : ∀ k : Nat, k < 4 → (A ^^^ 2 ^ r) / 2 ^ (8 * k) % 256 = (A / 2 ^ (8 * k) % 256) ^^^ (if r / 8 = k then 2 ^ (r % 8) else 0) := fun k hk => by
    rw [xor_byte]; congr 1
    exact pow_byte ⟨r, hr⟩ ⟨k, hk⟩
  have hn : ∀ k : Nat, k < 4 → r / 8 = k → ((UInt8.ofNat ((A ^^^ 2 ^ r) / 2 ^ (8 * k) % 256)).toNat : Int) ≠ ((UInt8.ofNat (A / 2 ^ (8 * k) % 256)).toNat : Int) := fun k hk h => by
    rw [hb k hk, if_pos h]
    have := xor_ne8 ⟨A / 2 ^ (8 * k) % 256, Nat.mod_lt _ (by omega)⟩ ⟨r % 8, Nat.mod_lt _ (by omega)⟩
    simp only at this
    have hm := Nat.mod_lt (A / 2 ^ (8 * k)) (show 0 < 256 by omega)
    generalize A / 2 ^ (8 * k) % 256 = B at this hm ⊢
    generalize B ^^^ 2 ^ (r % 8) = C at this ⊢
    rw [UInt8.toNat_ofNat', UInt8.toNat_ofNat', Nat.mod_eq_of_lt (by simpa using this.2), Nat.mod_eq_of_lt (by simpa using hm)]
    intro h2
    exact this.1 (by omega)
  have hs : ∀ k : Nat, k < 4 → r / 8 ≠ k → (A ^^^ 2 ^ r) / 2 ^ (8 * k) % 256 = A / 2 ^ (8 * k) % 256 := fun k hk h => by
    rw [hb k hk, if_neg h, Nat.xor_zero]
  have hq : r / 8 = 0 ∨ r / 8 = 1 ∨ r / 8 = 2 ∨ r / 8 = 3 := by omega
  rcases hq with h | h | h | h
  · exact ⟨3, _, by omega, by rw [hs 3 (by omega) (by omega), hs 2 (by omega) (by omega), hs 1 (by omega) (by omega)]; rfl, hn 0 (by omega) h⟩
  · exact ⟨2, _, by omega, by rw [hs 3 (by omega) (by omega), hs 2 (by omega) (by omega), hs 0 (by omega) (by omega)]; rfl, hn 1 (by omega) h⟩
  · exact ⟨1, _, by omega, by rw [hs 3 (by omega) (by omega), hs 1 (by omega) (by omega), hs 0 (by omega) (by omega)]; rfl, hn 2 (by omega) h⟩
  · exact ⟨0, _, by omega, by rw [hs 2 (by omega) (by omega), hs 1 (by omega) (by omega), hs 0 (by omega) (by omega)]; rfl, hn 3 (by omega) h⟩
theorem psum_src {a b : Int} (a0 : 0 ≤ a) (a1 : a ≤ 4294967295) {r : Nat} (hr : r < 32) {d n : Int} {l : List UInt8} (hs : csum (pseudo a b d n ++ l) = 0) : csum (pseudo (bits .xor .u32 a (2 ^ r)) b d n ++ l) ≠ 0 := by
  obtain ⟨-, -, j, y, hj, e, hy⟩ := four_flip a0 a1 hr
  have e2 : pseudo (bits .xor .u32 a (2 ^ r)) b d n = (pseudo a b d n).set j y := by
    unfold pseudo
    rw [e, List.set_append_left _ _ (by simp [four]; omega), List.set_append_left _ _ (by simp [four]; omega), List.set_append_left _ _ (by simp [four]; omega)]
  rw [e2]
  refine psum_flip hs (by omega) ?_
  have : bt (pseudo a b d n) j = bt (four a) j := by
    unfold pseudo
    rw [bt_append_left _ (by simp [four]; omega), bt_append_left _ (by simp [four]; omega), bt_append_left _ (by simp [four]; omega)]
  rw [this]; exact hy
theorem psum_dst {a b : Int} (a0 : 0 ≤ b) (a1 : b ≤ 4294967295) {r : Nat} (hr : r < 32) {d n : Int} {l : List UInt8} (hs : csum (pseudo a b d n ++ l) = 0) : csum (pseudo a (bits .xor .u32 b (2 ^ r)) d n ++ l) ≠ 0 := by
  obtain ⟨-, -, j, y, hj, e, hy⟩ := four_flip a0 a1 hr
  have e2 : pseudo a (bits .xor .u32 b (2 ^ r)) d n = (pseudo a b d n).set (4 + j) y := by
    unfold pseudo
    rw [e, List.set_append_left _ _ (by simp [four]; omega), List.set_append_left _ _ (by simp [four]; omega), List.set_append_right _ _ (by simp [four])]
    congr 4
    simp [four]
  rw [e2]
  refine psum_flip hs (by omega) ?_
  have : bt (pseudo a b d n) (4 + j) = bt (four b) j := by
    unfold pseudo
    rw [bt_append_left _ (by simp [four]; omega), bt_append_left _ (by simp [four]; omega), show 4 + j = (four a).length + j from by simp [four], bt_append_right]
  rw [this]; exact hy
end Go.Proofs.Ytjjhnjkmoogloaa

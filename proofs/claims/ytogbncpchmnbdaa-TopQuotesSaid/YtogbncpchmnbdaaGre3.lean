/- The packet with a frame: where the frame's numbers are right. -/
import Derived.Test.YtogbncpchmnbdaaGre2
import Derived.Test.YtogbncpchmnbdaaRegX2
namespace Go.Proofs.Ytogbncpchmnbdaa
open Go.RowKit
set_option linter.unusedVariables false
set_option linter.unusedSimpArgs false
set_option linter.unusedSimpArgs false
set_option maxHeartbeats 4000000
set_option maxRecDepth 100000

theorem bg_ok00 (p : Pkt) (A1 : Option Addr) (n1 c1 : Nat) (A2 : Option Addr) (n2 c2 : Nat) (call : Int) (hca : 0 ≤ call ∧ call ≤ 65535) (seq ack : Int) (hse : 0 ≤ seq ∧ seq ≤ 4294967295) (hak : 0 ≤ ack ∧ ack ≤ 4294967295) (hsq : (seq != 0) = false) (hac : (ack != 0) = false) (dat : List UInt8) (B1 : Option Addr) (m1 d1 : Nat) (w : World) (k1 : Bs w A1 n1 c1 p.opt) (j1 : Bs w B1 m1 d1 dat)
    (Q : Pkt) (E : Int) (hw2 : ∀ W lv, isCat lv ((grB false false ++ two ((m1 : Int) % 65536) ++ two call) ++ dat) W → Bs W A1 n1 c1 p.opt → Calls Try.prog 38 #[(.agg #[.int .u8 (p).tos, .int .u16 (p).id, .bool (p).keep, .int .u8 (p).ttl, .int .u8 (p).proto, .int .u32 (p).src, .int .u32 (p).dst, .slice A1 n1 c1, .slice A2 n2 c2]), .int .u8 47, lv] W (WiPost W Q E)) (hm1 : m1 ≤ 140737488400000) :
    Calls Try.prog 16 #[(.agg #[.int .u8 (p).tos, .int .u16 (p).id, .bool (p).keep, .int .u8 (p).ttl, .int .u8 (p).proto, .int .u32 (p).src, .int .u32 (p).dst, .slice A1 n1 c1, .slice A2 n2 c2]), .agg #[.int .u16 call, .bool false, .bool false, .int .u32 seq, .int .u32 ack, .slice B1 m1 d1]] w (WiPost w Q E) := by
  have b1 := j1.max
  obtain ⟨ca0, ca1⟩ := hca
  obtain ⟨se0, se1⟩ := hse
  obtain ⟨ak0, ak1⟩ := hak
  obtain ⟨z, hz⟩ : ∃ z : Int, (m1 : Int) % 65536 = z := ⟨_, rfl⟩
  have z0 : 0 ≤ z := by omega
  have z1 : z ≤ 65535 := by omega
  have hzw : IntKind.u16.wrap (m1 : Int) = z := by rw [← hz]; simp [IntKind.wrap, IntKind.signed, IntKind.bits]
  rw [hz] at hw2
  have H1 : Hid (put16 ([ub (b0F false), ub (b1F false), ub 136, ub 11] ++ [0, 0, 0, 0]) 4 z = grB false false ++ two z ++ [0, 0]) := by unfold Hid; simp [put16, putK, two, grB]
  have H2 : Hid (put16 (grB false false ++ two z ++ [0, 0]) 6 call = grB false false ++ two z ++ two call) := by unfold Hid; simp [put16, putK, two, grB]
  have hl4 : (cu [0, 0, 0, 0]).toArray = #[.int .u8 0, .int .u8 0, .int .u8 0, .int .u8 0] := rfl
  obtain ⟨k, hk⟩ : ∃ k : Nat, w.heap.size = k := ⟨_, rfl⟩
  obtain ⟨w1, hw1⟩ : ∃ w1, ((w.alloc (.cells #[.int .u8 (p).tos, .int .u16 (p).id, .bool (p).keep, .int .u8 (p).ttl, .int .u8 (p).proto, .int .u32 (p).src, .int .u32 (p).dst, .slice A1 n1 c1, .slice A2 n2 c2] 26)).alloc (.cells #[.int .u16 call, .bool false, .bool false, .int .u32 seq, .int .u32 ack, .slice B1 m1 d1] 30)).alloc (.cells #[.int .u8 0, .int .u16 0, .bool false, .int .u8 0, .int .u8 0, .int .u32 0, .int .u32 0, .slice none 0 0, .slice none 0 0] 26) = w1 := ⟨_, rfl⟩
  have P1 : Blk w1 k #[.int .u8 (p).tos, .int .u16 (p).id, .bool (p).keep, .int .u8 (p).ttl, .int .u8 (p).proto, .int .u32 (p).src, .int .u32 (p).dst, .slice A1 n1 c1, .slice A2 n2 c2] 26 := by rw [← hw1]; exact ((blk_new w _ _ k hk).alloc _).alloc _
  have F1 : Blk w1 (k + 1) #[.int .u16 call, .bool false, .bool false, .int .u32 seq, .int .u32 ack, .slice B1 m1 d1] 30 := by rw [← hw1]; exact (blk_new _ _ _ (k + 1) (by simp [hk])).alloc _
  have Z1 : Blk w1 (k + 1 + 1) #[.int .u8 0, .int .u16 0, .bool false, .int .u8 0, .int .u8 0, .int .u32 0, .int .u32 0, .slice none 0 0, .slice none 0 0] 26 := by rw [← hw1]; exact blk_new _ _ _ (k + 1 + 1) (by simp [hk])
  have R1 : Below w.heap.size w w1 := by rw [← hw1]; (repeat (first | with_reducible exact Below.refl _ _ | with_reducible refine below_drew ?_ | with_reducible refine below_drewN ?_ _ | with_reducible refine below_alloc ?_ (Nat.le_refl _) _ | with_reducible refine Below.setCell ?_ (by first | exact Nat.le_refl _ | (simp only []; omega)) _ | with_reducible assumption))
  have x1 := k1.below R1
  have y1 := j1.below R1
  have mc := F1.cell
  have zl1 := Z1.lt
  go_enter Try.func16, Try.ntmps16
  go_wp2_with (first
    | (go_at_call 45; ((with_reducible refine (begin_any false false _).mono ?_); rintro e w2 ⟨rfl, hB2⟩); (obtain ⟨w3, hw3⟩ : ∃ w3, w2.alloc (.cells #[.int .u8 (b0F false), .int .u8 (b1F false), .int .u8 136, .int .u8 11] 61) = w3 := ⟨_, rfl⟩); have G3 : Blk w3 w2.heap.size #[.int .u8 (b0F false), .int .u8 (b1F false), .int .u8 136, .int .u8 11] 61 := (by rw [← hw3]; exact blk_new w2 _ _ _ rfl); have V3 : Below w2.heap.size w2 w3 := (by rw [← hw3]; (repeat (first | with_reducible exact Below.refl _ _ | with_reducible refine below_drew ?_ | with_reducible refine below_drewN ?_ _ | with_reducible refine below_alloc ?_ (Nat.le_refl _) _ | with_reducible refine Below.setCell ?_ (by first | exact Nat.le_refl _ | (simp only []; omega)) _ | with_reducible assumption))); (obtain ⟨A4, c4, w4, hrun, O4, hB4⟩ := app_first w3 w2.heap.size (b0F false) (b1F false) (b0F_bd _).1 (b0F_bd _).2 (b1F_bd _).1 (b1F_bd _).2 G3))
    | (at_builtin; refine Lib.wpList_append_run _ rfl _ _ _ _ rfl _ _ rfl rfl _ _ hrun ?_))
  have T3 := below_then hB2 V3
  have T4 := below_then T3 hB4
  have F4 := F1.below T4
  have o4 := O4.bs
  have s3 := T3.size
  have s4 := hB4.size
  have hc4 : 8 ≤ c4 := o4.cap
  refine region_txt 9 (by kernel_rfl) (by kernel_rfl) ?_; (iterate 9 (first | (apply ObsK.skip (by rfl)) | (apply ObsK.v (by rfl); (intro wo hT; (repeat (first | (intro v hv; ((obtain ⟨A5, n5, c5, rfl, o5⟩ := hv; have u5 : n5 = 8 := (by rw [← o5.len]; rfl); subst u5; have ob5 := o5.bs))) | (intro _ _ k; try have hcv := cv k))); (have mc := (F4.below hT).cell; have bo := o4.below hT; have hsz : w4.heap.size ≤ wo.heap.size := hT.size); refine Goes.mk ?_; go_simp; first | exact goes_v | exact goes_b (by assumption) | (refine goes_enter ?_; first | (go_at_call 39; ((with_reducible refine (put16_any A4 8 c4 _ 4 z z0 z1 wo bo).mono ?_); rintro e w9 ⟨A9, c9, rfl, ho9, hB9⟩); rw [H1.out] at ho9; exact ret_p (own_isW ho9 hsz) hB9) | (go_at_call 39; ((with_reducible refine (put16_any A5 8 c5 _ 6 call ca0 ca1 wo ob5).mono ?_); rintro e w9 ⟨A9, c9, rfl, ho9, hB9⟩); rw [H2.out] at ho9; exact ret_p (own_isW ho9 hsz) hB9)))) | (apply ObsK.b (by rfl); (intro wo hT; (repeat (first | (intro v hv; ((obtain ⟨A5, n5, c5, rfl, o5⟩ := hv; have u5 : n5 = 8 := (by rw [← o5.len]; rfl); subst u5; have ob5 := o5.bs))) | (intro _ _ k; try have hcv := cv k))); (have mc := (F4.below hT).cell; have bo := o4.below hT; have hsz : w4.heap.size ≤ wo.heap.size := hT.size); refine Goes.mk ?_; go_simp; first | exact goes_v | exact goes_b (by assumption) | (refine goes_enter ?_; first | (go_at_call 39; ((with_reducible refine (put16_any A4 8 c4 _ 4 z z0 z1 wo bo).mono ?_); rintro e w9 ⟨A9, c9, rfl, ho9, hB9⟩); rw [H1.out] at ho9; exact ret_p (own_isW ho9 hsz) hB9) | (go_at_call 39; ((with_reducible refine (put16_any A5 8 c5 _ 6 call ca0 ca1 wo ob5).mono ?_); rintro e w9 ⟨A9, c9, rfl, ho9, hB9⟩); rw [H2.out] at ho9; exact ret_p (own_isW ho9 hsz) hB9)))) | (apply ObsK.p (q := isW w4.heap.size _) (by rfl) st_isW; (intro wo hT; (repeat (first | (intro v hv; ((obtain ⟨A5, n5, c5, rfl, o5⟩ := hv; have u5 : n5 = 8 := (by rw [← o5.len]; rfl); subst u5; have ob5 := o5.bs))) | (intro _ _ k; try have hcv := cv k))); (have mc := (F4.below hT).cell; have bo := o4.below hT; have hsz : w4.heap.size ≤ wo.heap.size := hT.size); refine Goes.mk ?_; go_simp; first | exact goes_v | exact goes_b (by assumption) | (refine goes_enter ?_; first | (go_at_call 39; ((with_reducible refine (put16_any A4 8 c4 _ 4 z z0 z1 wo bo).mono ?_); rintro e w9 ⟨A9, c9, rfl, ho9, hB9⟩); rw [H1.out] at ho9; exact ret_p (own_isW ho9 hsz) hB9) | (go_at_call 39; ((with_reducible refine (put16_any A5 8 c5 _ 6 call ca0 ca1 wo ob5).mono ?_); rintro e w9 ⟨A9, c9, rfl, ho9, hB9⟩); rw [H2.out] at ho9; exact ret_p (own_isW ho9 hsz) hB9)))))); refine ObsK.nil ?_; intro wz hBz; simp only [finOn, List.drop_succ_cons, List.drop_zero, List.drop_nil]
  rintro v6 ⟨A6, n6, c6, rfl, O6⟩ v7 hv7
  clear hv7
  have u6 : n6 = 8 := by rw [← O6.len]; rfl
  subst u6
  go_simp
  have T6 := below_then T4 hBz
  have P6 := P1.below T6
  have F6 := F1.below T6
  have Z6 := Z1.below T6
  have x6 := x1.below T6
  have y6 := y1.below T6
  have mc6 := F6.cell
  have sz6 := hBz.size
  generalize wz = w6 at *
  clear hBz o4 O4 hrun hB4 G3 hw3 V3 T3 F4 hw1 mc T4
  obtain ⟨w9, hw9⟩ : ∃ w9, w6.alloc (.cells #[.slice A6 8 c6, .slice B1 m1 d1] 24) = w9 := ⟨_, rfl⟩
  have G9 : Blk w9 w6.heap.size #[.slice A6 8 c6, .slice B1 m1 d1] 24 := by rw [← hw9]; exact blk_new w6 _ _ _ rfl
  have V9 : Below w6.heap.size w6 w9 := by rw [← hw9]; (repeat (first | with_reducible exact Below.refl _ _ | with_reducible refine below_drew ?_ | with_reducible refine below_drewN ?_ _ | with_reducible refine below_alloc ?_ (Nat.le_refl _) _ | with_reducible refine Below.setCell ?_ (by first | exact Nat.le_refl _ | (simp only []; omega)) _ | with_reducible assumption))
  have o6 := O6.bs
  have hcat := isCat2 G9 (o6.below V9) (y6.below V9) (cc := 2) (by omega)
  have T9 := below_then T6 V9
  have pc6 := P6.cell
  have s9 := (below_then R1 T9).size
  have kz : k + 1 + 1 < w9.heap.size := (Z6.below V9).lt
  go_wp2_with (go_at_call 38; ((with_reducible refine (hw2 w9 _ hcat (x6.below V9)).mono ?_); rintro e w10 ⟨⟨C1, e1, f1, C2, e2, f2, rfl, O1, O2, hB10⟩⟩); have T10 := below_then T9 hB10; have Z10 := Z1.below T10; have zc10 := Z10.cell)
  obtain ⟨wf, hwf, Sf⟩ := store9 Z10 (.int .u8 Q.tos) (.int .u16 Q.id) (.bool Q.keep) (.int .u8 Q.ttl) (.int .u8 Q.proto) (.int .u32 Q.src) (.int .u32 Q.dst) (.slice C1 e1 f1) (.slice C2 e2 f2)
  rw [hwf]
  have pf := Sf.blk.cell
  have Of := Sf.own O1 (fun a e => by have := O1.ge a e; omega)
  have Df := Sf.own O2 (fun a e => by have := O2.ge a e; omega)
  refine bodyPost_ret (v := .tuple #[(.agg #[.int .u8 (Q).tos, .int .u16 (Q).id, .bool (Q).keep, .int .u8 (Q).ttl, .int .u8 (Q).proto, .int .u32 (Q).src, .int .u32 (Q).dst, .slice C1 e1 f1, .slice C2 e2 f2]), .int .i64 E]) (by simp [results, Try.results16, go_sem, pf]) rfl ⟨⟨C1, e1, f1, C2, e2, f2, rfl, Of.mono s9, Df.mono s9, Sf.bel (below_then R1 T10) (by omega)⟩⟩
theorem bg_ok01 (p : Pkt) (A1 : Option Addr) (n1 c1 : Nat) (A2 : Option Addr) (n2 c2 : Nat) (call : Int) (hca : 0 ≤ call ∧ call ≤ 65535) (seq ack : Int) (hse : 0 ≤ seq ∧ seq ≤ 4294967295) (hak : 0 ≤ ack ∧ ack ≤ 4294967295) (hsq : (seq != 0) = false) (dat : List UInt8) (B1 : Option Addr) (m1 d1 : Nat) (w : World) (k1 : Bs w A1 n1 c1 p.opt) (j1 : Bs w B1 m1 d1 dat)
    (Q : Pkt) (E : Int) (hw2 : ∀ W lv, isCat lv (((grB false true ++ two ((m1 : Int) % 65536) ++ two call) ++ four ack) ++ dat) W → Bs W A1 n1 c1 p.opt → Calls Try.prog 38 #[(.agg #[.int .u8 (p).tos, .int .u16 (p).id, .bool (p).keep, .int .u8 (p).ttl, .int .u8 (p).proto, .int .u32 (p).src, .int .u32 (p).dst, .slice A1 n1 c1, .slice A2 n2 c2]), .int .u8 47, lv] W (WiPost W Q E)) (hm1 : m1 ≤ 140737488400000) :
    Calls Try.prog 16 #[(.agg #[.int .u8 (p).tos, .int .u16 (p).id, .bool (p).keep, .int .u8 (p).ttl, .int .u8 (p).proto, .int .u32 (p).src, .int .u32 (p).dst, .slice A1 n1 c1, .slice A2 n2 c2]), .agg #[.int .u16 call, .bool false, .bool true, .int .u32 seq, .int .u32 ack, .slice B1 m1 d1]] w (WiPost w Q E) := by
  have b1 := j1.max
  obtain ⟨ca0, ca1⟩ := hca
  obtain ⟨se0, se1⟩ := hse
  obtain ⟨ak0, ak1⟩ := hak
  obtain ⟨z, hz⟩ : ∃ z : Int, (m1 : Int) % 65536 = z := ⟨_, rfl⟩
  have z0 : 0 ≤ z := by omega
  have z1 : z ≤ 65535 := by omega
  have hzw : IntKind.u16.wrap (m1 : Int) = z := by rw [← hz]; simp [IntKind.wrap, IntKind.signed, IntKind.bits]
  rw [hz] at hw2
  have H1 : Hid (put16 ([ub (b0F false), ub (b1F true), ub 136, ub 11] ++ [0, 0, 0, 0]) 4 z = grB false true ++ two z ++ [0, 0]) := by unfold Hid; simp [put16, putK, two, grB]
  have H2 : Hid (put16 (grB false true ++ two z ++ [0, 0]) 6 call = grB false true ++ two z ++ two call) := by unfold Hid; simp [put16, putK, two, grB]
  have hl4 : (cu [0, 0, 0, 0]).toArray = #[.int .u8 0, .int .u8 0, .int .u8 0, .int .u8 0] := rfl
  obtain ⟨k, hk⟩ : ∃ k : Nat, w.heap.size = k := ⟨_, rfl⟩
  obtain ⟨w1, hw1⟩ : ∃ w1, ((w.alloc (.cells #[.int .u8 (p).tos, .int .u16 (p).id, .bool (p).keep, .int .u8 (p).ttl, .int .u8 (p).proto, .int .u32 (p).src, .int .u32 (p).dst, .slice A1 n1 c1, .slice A2 n2 c2] 26)).alloc (.cells #[.int .u16 call, .bool false, .bool true, .int .u32 seq, .int .u32 ack, .slice B1 m1 d1] 30)).alloc (.cells #[.int .u8 0, .int .u16 0, .bool false, .int .u8 0, .int .u8 0, .int .u32 0, .int .u32 0, .slice none 0 0, .slice none 0 0] 26) = w1 := ⟨_, rfl⟩
  have P1 : Blk w1 k #[.int .u8 (p).tos, .int .u16 (p).id, .bool (p).keep, .int .u8 (p).ttl, .int .u8 (p).proto, .int .u32 (p).src, .int .u32 (p).dst, .slice A1 n1 c1, .slice A2 n2 c2] 26 := by rw [← hw1]; exact ((blk_new w _ _ k hk).alloc _).alloc _
  have F1 : Blk w1 (k + 1) #[.int .u16 call, .bool false, .bool true, .int .u32 seq, .int .u32 ack, .slice B1 m1 d1] 30 := by rw [← hw1]; exact (blk_new _ _ _ (k + 1) (by simp [hk])).alloc _
  have Z1 : Blk w1 (k + 1 + 1) #[.int .u8 0, .int .u16 0, .bool false, .int .u8 0, .int .u8 0, .int .u32 0, .int .u32 0, .slice none 0 0, .slice none 0 0] 26 := by rw [← hw1]; exact blk_new _ _ _ (k + 1 + 1) (by simp [hk])
  have R1 : Below w.heap.size w w1 := by rw [← hw1]; (repeat (first | with_reducible exact Below.refl _ _ | with_reducible refine below_drew ?_ | with_reducible refine below_drewN ?_ _ | with_reducible refine below_alloc ?_ (Nat.le_refl _) _ | with_reducible refine Below.setCell ?_ (by first | exact Nat.le_refl _ | (simp only []; omega)) _ | with_reducible assumption))
  have x1 := k1.below R1
  have y1 := j1.below R1
  have mc := F1.cell
  have zl1 := Z1.lt
  go_enter Try.func16, Try.ntmps16
  go_wp2_with (first
    | (go_at_call 45; ((with_reducible refine (begin_any false true _).mono ?_); rintro e w2 ⟨rfl, hB2⟩); (obtain ⟨w3, hw3⟩ : ∃ w3, w2.alloc (.cells #[.int .u8 (b0F false), .int .u8 (b1F true), .int .u8 136, .int .u8 11] 61) = w3 := ⟨_, rfl⟩); have G3 : Blk w3 w2.heap.size #[.int .u8 (b0F false), .int .u8 (b1F true), .int .u8 136, .int .u8 11] 61 := (by rw [← hw3]; exact blk_new w2 _ _ _ rfl); have V3 : Below w2.heap.size w2 w3 := (by rw [← hw3]; (repeat (first | with_reducible exact Below.refl _ _ | with_reducible refine below_drew ?_ | with_reducible refine below_drewN ?_ _ | with_reducible refine below_alloc ?_ (Nat.le_refl _) _ | with_reducible refine Below.setCell ?_ (by first | exact Nat.le_refl _ | (simp only []; omega)) _ | with_reducible assumption))); (obtain ⟨A4, c4, w4, hrun, O4, hB4⟩ := app_first w3 w2.heap.size (b0F false) (b1F true) (b0F_bd _).1 (b0F_bd _).2 (b1F_bd _).1 (b1F_bd _).2 G3))
    | (at_builtin; refine Lib.wpList_append_run _ rfl _ _ _ _ rfl _ _ rfl rfl _ _ hrun ?_))
  have T3 := below_then hB2 V3
  have T4 := below_then T3 hB4
  have F4 := F1.below T4
  have o4 := O4.bs
  have s3 := T3.size
  have s4 := hB4.size
  have hc4 : 8 ≤ c4 := o4.cap
  refine region_txt 9 (by kernel_rfl) (by kernel_rfl) ?_; (iterate 9 (first | (apply ObsK.skip (by rfl)) | (apply ObsK.v (by rfl); (intro wo hT; (repeat (first | (intro v hv; ((obtain ⟨A5, n5, c5, rfl, o5⟩ := hv; have u5 : n5 = 8 := (by rw [← o5.len]; rfl); subst u5; have ob5 := o5.bs))) | (intro _ _ k; try have hcv := cv k))); (have mc := (F4.below hT).cell; have bo := o4.below hT; have hsz : w4.heap.size ≤ wo.heap.size := hT.size); refine Goes.mk ?_; go_simp; first | exact goes_v | exact goes_b (by assumption) | (refine goes_enter ?_; first | (go_at_call 39; ((with_reducible refine (put16_any A4 8 c4 _ 4 z z0 z1 wo bo).mono ?_); rintro e w9 ⟨A9, c9, rfl, ho9, hB9⟩); rw [H1.out] at ho9; exact ret_p (own_isW ho9 hsz) hB9) | (go_at_call 39; ((with_reducible refine (put16_any A5 8 c5 _ 6 call ca0 ca1 wo ob5).mono ?_); rintro e w9 ⟨A9, c9, rfl, ho9, hB9⟩); rw [H2.out] at ho9; exact ret_p (own_isW ho9 hsz) hB9)))) | (apply ObsK.b (by rfl); (intro wo hT; (repeat (first | (intro v hv; ((obtain ⟨A5, n5, c5, rfl, o5⟩ := hv; have u5 : n5 = 8 := (by rw [← o5.len]; rfl); subst u5; have ob5 := o5.bs))) | (intro _ _ k; try have hcv := cv k))); (have mc := (F4.below hT).cell; have bo := o4.below hT; have hsz : w4.heap.size ≤ wo.heap.size := hT.size); refine Goes.mk ?_; go_simp; first | exact goes_v | exact goes_b (by assumption) | (refine goes_enter ?_; first | (go_at_call 39; ((with_reducible refine (put16_any A4 8 c4 _ 4 z z0 z1 wo bo).mono ?_); rintro e w9 ⟨A9, c9, rfl, ho9, hB9⟩); rw [H1.out] at ho9; exact ret_p (own_isW ho9 hsz) hB9) | (go_at_call 39; ((with_reducible refine (put16_any A5 8 c5 _ 6 call ca0 ca1 wo ob5).mono ?_); rintro e w9 ⟨A9, c9, rfl, ho9, hB9⟩); rw [H2.out] at ho9; exact ret_p (own_isW ho9 hsz) hB9)))) | (apply ObsK.p (q := isW w4.heap.size _) (by rfl) st_isW; (intro wo hT; (repeat (first | (intro v hv; ((obtain ⟨A5, n5, c5, rfl, o5⟩ := hv; have u5 : n5 = 8 := (by rw [← o5.len]; rfl); subst u5; have ob5 := o5.bs))) | (intro _ _ k; try have hcv := cv k))); (have mc := (F4.below hT).cell; have bo := o4.below hT; have hsz : w4.heap.size ≤ wo.heap.size := hT.size); refine Goes.mk ?_; go_simp; first | exact goes_v | exact goes_b (by assumption) | (refine goes_enter ?_; first | (go_at_call 39; ((with_reducible refine (put16_any A4 8 c4 _ 4 z z0 z1 wo bo).mono ?_); rintro e w9 ⟨A9, c9, rfl, ho9, hB9⟩); rw [H1.out] at ho9; exact ret_p (own_isW ho9 hsz) hB9) | (go_at_call 39; ((with_reducible refine (put16_any A5 8 c5 _ 6 call ca0 ca1 wo ob5).mono ?_); rintro e w9 ⟨A9, c9, rfl, ho9, hB9⟩); rw [H2.out] at ho9; exact ret_p (own_isW ho9 hsz) hB9)))))); refine ObsK.nil ?_; intro wz hBz; simp only [finOn, List.drop_succ_cons, List.drop_zero, List.drop_nil]
  rintro v6 ⟨A6, n6, c6, rfl, O6⟩ v7 hv7
  clear hv7
  have u6 : n6 = 8 := by rw [← O6.len]; rfl
  subst u6
  go_simp
  have T6 := below_then T4 hBz
  have P6 := P1.below T6
  have F6 := F1.below T6
  have Z6 := Z1.below T6
  have x6 := x1.below T6
  have y6 := y1.below T6
  have mc6 := F6.cell
  have sz6 := hBz.size
  generalize wz = w6 at *
  clear hBz o4 O4 hrun hB4 G3 hw3 V3 T3 F4 hw1 mc T4
  go_wp2_with fail
  obtain ⟨g7, rfl, gl7, gh7⟩ := O6.ptr (by omega)
  have H7a : Hid (put32 ((grB false true ++ two z ++ two call) ++ [0, 0, 0, 0]) 8 ack = (grB false true ++ two z ++ two call) ++ four ack) := by unfold Hid; simp [put32, putK, two, four, grB]
  have sl7 : w1.heap.size ≤ g7 := by omega
  refine regionX 8 [2] g7 (fun c W => match c with | 0 => Own W w4.heap.size 5 (some ⟨g7, 0, none⟩) 8 c6 (grB false true ++ two z ++ two call) | _ + 1 => True) (by kernel_rfl) (by kernel_rfl) (by kernel_rfl) O6 (fun c W W' hj hb => by cases c with | zero => exact Own.below hj hb | succ n => trivial) ?_; (iterate 8 (first | (apply ObsX.skip (by rfl) (by rfl)) | (apply ObsX.v (by rfl) (by rfl); (intro wo hE; (repeat (first | (intro v hv; ((first | (obtain ⟨Aq, cq, rfl, oq, oq'⟩ := hv) | (obtain ⟨Ap, np, cp, rfl, op⟩ := hv; have up : np = 12 := (by rw [← op.len]; rfl); subst up; have obp := op.bs)))) | (intro _ _ k; try have hcv := cv k))); (have mc := (F6.ext hE (by omega)).cell; have hsz := hE.size; have glx := gh7); refine Goes.mk ?_; first | (exact goes_appX _ _ rfl rfl hj (fun k e => by simp [Value.ownBlock] at e; exact e.symm) rfl oq (by omega) (by omega) (fun _ => trivial)) | (go_simp; first | exact goes_v | exact goes_litN hl4 rfl (by omega) (by omega) | (refine goes_enter ?_; first | (go_at_call 37; ((with_reducible refine (put32_any Ap 12 cp _ 8 ack ak0 ak1 wo obp).mono ?_); rintro e w9 ⟨A9, c9, rfl, ho9, hB9⟩); rw [H7a.out] at ho9; exact ret_p (own_isW ho9 hsz) hB9))))) | (apply ObsX.p (q := isN g7 4 [0, 0, 0, 0]) (by rfl) (by rfl) st_isN sx_isN; (intro wo hE; (repeat (first | (intro v hv; ((first | (obtain ⟨Aq, cq, rfl, oq, oq'⟩ := hv) | (obtain ⟨Ap, np, cp, rfl, op⟩ := hv; have up : np = 12 := (by rw [← op.len]; rfl); subst up; have obp := op.bs)))) | (intro _ _ k; try have hcv := cv k))); (have mc := (F6.ext hE (by omega)).cell; have hsz := hE.size; have glx := gh7); refine Goes.mk ?_; first | (exact goes_appX _ _ rfl rfl hj (fun k e => by simp [Value.ownBlock] at e; exact e.symm) rfl oq (by omega) (by omega) (fun _ => trivial)) | (go_simp; first | exact goes_v | exact goes_litN hl4 rfl (by omega) (by omega) | (refine goes_enter ?_; first | (go_at_call 37; ((with_reducible refine (put32_any Ap 12 cp _ 8 ack ak0 ak1 wo obp).mono ?_); rintro e w9 ⟨A9, c9, rfl, ho9, hB9⟩); rw [H7a.out] at ho9; exact ret_p (own_isW ho9 hsz) hB9))))) | (apply ObsX.p (q := isW w6.heap.size _) (by rfl) (by rfl) st_isW (sx_isW gh7); (intro wo hE; (repeat (first | (intro v hv; ((first | (obtain ⟨Aq, cq, rfl, oq, oq'⟩ := hv) | (obtain ⟨Ap, np, cp, rfl, op⟩ := hv; have up : np = 12 := (by rw [← op.len]; rfl); subst up; have obp := op.bs)))) | (intro _ _ k; try have hcv := cv k))); (have mc := (F6.ext hE (by omega)).cell; have hsz := hE.size; have glx := gh7); refine Goes.mk ?_; first | (exact goes_appX _ _ rfl rfl hj (fun k e => by simp [Value.ownBlock] at e; exact e.symm) rfl oq (by omega) (by omega) (fun _ => trivial)) | (go_simp; first | exact goes_v | exact goes_litN hl4 rfl (by omega) (by omega) | (refine goes_enter ?_; first | (go_at_call 37; ((with_reducible refine (put32_any Ap 12 cp _ 8 ack ak0 ak1 wo obp).mono ?_); rintro e w9 ⟨A9, c9, rfl, ho9, hB9⟩); rw [H7a.out] at ho9; exact ret_p (own_isW ho9 hsz) hB9))))) | (apply ObsX.ev (by rfl) (by rfl); (intro wo hE hj; (repeat (first | (intro v hv; ((first | (obtain ⟨Aq, cq, rfl, oq, oq'⟩ := hv) | (obtain ⟨Ap, np, cp, rfl, op⟩ := hv; have up : np = 12 := (by rw [← op.len]; rfl); subst up; have obp := op.bs)))) | (intro _ _ k; try have hcv := cv k))); (have mc := (F6.ext hE (by omega)).cell; have hsz := hE.size; have glx := gh7); refine GoesX.mk ?_; first | (exact goes_appX _ _ rfl rfl hj (fun k e => by simp [Value.ownBlock] at e; exact e.symm) rfl oq (by omega) (by omega) (fun _ => trivial)) | (go_simp; first | exact goes_v | exact goes_litN hl4 rfl (by omega) (by omega) | (refine goes_enter ?_; first | (go_at_call 37; ((with_reducible refine (put32_any Ap 12 cp _ 8 ack ak0 ak1 wo obp).mono ?_); rintro e w9 ⟨A9, c9, rfl, ho9, hB9⟩); rw [H7a.out] at ho9; exact ret_p (own_isW ho9 hsz) hB9))))) | (apply ObsX.ep (q := isN g7 4 [0, 0, 0, 0]) (by rfl) (by rfl) (by rfl) st_isN; (intro wo hE hj; (repeat (first | (intro v hv; ((first | (obtain ⟨Aq, cq, rfl, oq, oq'⟩ := hv) | (obtain ⟨Ap, np, cp, rfl, op⟩ := hv; have up : np = 12 := (by rw [← op.len]; rfl); subst up; have obp := op.bs)))) | (intro _ _ k; try have hcv := cv k))); (have mc := (F6.ext hE (by omega)).cell; have hsz := hE.size; have glx := gh7); refine GoesX.mk ?_; first | (exact goes_appX _ _ rfl rfl hj (fun k e => by simp [Value.ownBlock] at e; exact e.symm) rfl oq (by omega) (by omega) (fun _ => trivial)) | (go_simp; first | exact goes_v | exact goes_litN hl4 rfl (by omega) (by omega) | (refine goes_enter ?_; first | (go_at_call 37; ((with_reducible refine (put32_any Ap 12 cp _ 8 ack ak0 ak1 wo obp).mono ?_); rintro e w9 ⟨A9, c9, rfl, ho9, hB9⟩); rw [H7a.out] at ho9; exact ret_p (own_isW ho9 hsz) hB9))))) | (apply ObsX.ep (q := isW w6.heap.size _) (by rfl) (by rfl) (by rfl) st_isW; (intro wo hE hj; (repeat (first | (intro v hv; ((first | (obtain ⟨Aq, cq, rfl, oq, oq'⟩ := hv) | (obtain ⟨Ap, np, cp, rfl, op⟩ := hv; have up : np = 12 := (by rw [← op.len]; rfl); subst up; have obp := op.bs)))) | (intro _ _ k; try have hcv := cv k))); (have mc := (F6.ext hE (by omega)).cell; have hsz := hE.size; have glx := gh7); refine GoesX.mk ?_; first | (exact goes_appX _ _ rfl rfl hj (fun k e => by simp [Value.ownBlock] at e; exact e.symm) rfl oq (by omega) (by omega) (fun _ => trivial)) | (go_simp; first | exact goes_v | exact goes_litN hl4 rfl (by omega) (by omega) | (refine goes_enter ?_; first | (go_at_call 37; ((with_reducible refine (put32_any Ap 12 cp _ 8 ack ak0 ak1 wo obp).mono ?_); rintro e w9 ⟨A9, c9, rfl, ho9, hB9⟩); rw [H7a.out] at ho9; exact ret_p (own_isW ho9 hsz) hB9))))) | (apply ObsX.ep (q := isW w4.heap.size _) (by rfl) (by rfl) (by rfl) st_isW; (intro wo hE hj; (repeat (first | (intro v hv; ((first | (obtain ⟨Aq, cq, rfl, oq, oq'⟩ := hv) | (obtain ⟨Ap, np, cp, rfl, op⟩ := hv; have up : np = 12 := (by rw [← op.len]; rfl); subst up; have obp := op.bs)))) | (intro _ _ k; try have hcv := cv k))); (have mc := (F6.ext hE (by omega)).cell; have hsz := hE.size; have glx := gh7); refine GoesX.mk ?_; first | (exact goes_appX _ _ rfl rfl hj (fun k e => by simp [Value.ownBlock] at e; exact e.symm) rfl oq (by omega) (by omega) (fun _ => trivial)) | (go_simp; first | exact goes_v | exact goes_litN hl4 rfl (by omega) (by omega) | (refine goes_enter ?_; first | (go_at_call 37; ((with_reducible refine (put32_any Ap 12 cp _ 8 ack ak0 ak1 wo obp).mono ?_); rintro e w9 ⟨A9, c9, rfl, ho9, hB9⟩); rw [H7a.out] at ho9; exact ret_p (own_isW ho9 hsz) hB9))))))); refine ObsX.nil ?_; intro wz hEz hJz; simp only [finOn, List.drop_succ_cons, List.drop_zero, List.drop_nil]
  rintro v1 ⟨A7, n7, c7, rfl, O7⟩ v2 hv2 v3 hv3
  clear hv2 hv3
  have u7 : n7 = 12 := by rw [← O7.len]; rfl
  subst u7
  go_simp
  have T7 := below_ext T6 hEz sl7 T6.size
  have P7 := P6.ext hEz (by omega)
  have F7 := F6.ext hEz (by omega)
  have Z7 := Z6.ext hEz (by omega)
  have x7 := x1.below T7
  have y7 := y1.below T7
  have mc7 := F7.cell
  have sz7 : w6.heap.size ≤ wz.heap.size := hEz.size
  generalize wz = w7 at *
  clear hEz hJz mc6 O6
  obtain ⟨w9, hw9⟩ : ∃ w9, w7.alloc (.cells #[.slice A7 12 c7, .slice B1 m1 d1] 24) = w9 := ⟨_, rfl⟩
  have G9 : Blk w9 w7.heap.size #[.slice A7 12 c7, .slice B1 m1 d1] 24 := by rw [← hw9]; exact blk_new w7 _ _ _ rfl
  have V9 : Below w7.heap.size w7 w9 := by rw [← hw9]; (repeat (first | with_reducible exact Below.refl _ _ | with_reducible refine below_drew ?_ | with_reducible refine below_drewN ?_ _ | with_reducible refine below_alloc ?_ (Nat.le_refl _) _ | with_reducible refine Below.setCell ?_ (by first | exact Nat.le_refl _ | (simp only []; omega)) _ | with_reducible assumption))
  have o7 := O7.bs
  have hcat := isCat2 G9 (o7.below V9) (y7.below V9) (cc := 2) (by omega)
  have T9 := below_then T7 V9
  have pc7 := P7.cell
  have s9 := (below_then R1 T9).size
  have kz : k + 1 + 1 < w9.heap.size := (Z7.below V9).lt
  go_wp2_with (go_at_call 38; ((with_reducible refine (hw2 w9 _ hcat (x7.below V9)).mono ?_); rintro e w10 ⟨⟨C1, e1, f1, C2, e2, f2, rfl, O1, O2, hB10⟩⟩); have T10 := below_then T9 hB10; have Z10 := Z1.below T10; have zc10 := Z10.cell)
  obtain ⟨wf, hwf, Sf⟩ := store9 Z10 (.int .u8 Q.tos) (.int .u16 Q.id) (.bool Q.keep) (.int .u8 Q.ttl) (.int .u8 Q.proto) (.int .u32 Q.src) (.int .u32 Q.dst) (.slice C1 e1 f1) (.slice C2 e2 f2)
  rw [hwf]
  have pf := Sf.blk.cell
  have Of := Sf.own O1 (fun a e => by have := O1.ge a e; omega)
  have Df := Sf.own O2 (fun a e => by have := O2.ge a e; omega)
  refine bodyPost_ret (v := .tuple #[(.agg #[.int .u8 (Q).tos, .int .u16 (Q).id, .bool (Q).keep, .int .u8 (Q).ttl, .int .u8 (Q).proto, .int .u32 (Q).src, .int .u32 (Q).dst, .slice C1 e1 f1, .slice C2 e2 f2]), .int .i64 E]) (by simp [results, Try.results16, go_sem, pf]) rfl ⟨⟨C1, e1, f1, C2, e2, f2, rfl, Of.mono s9, Df.mono s9, Sf.bel (below_then R1 T10) (by omega)⟩⟩
theorem bg_ok10 (p : Pkt) (A1 : Option Addr) (n1 c1 : Nat) (A2 : Option Addr) (n2 c2 : Nat) (call : Int) (hca : 0 ≤ call ∧ call ≤ 65535) (seq ack : Int) (hse : 0 ≤ seq ∧ seq ≤ 4294967295) (hak : 0 ≤ ack ∧ ack ≤ 4294967295) (hac : (ack != 0) = false) (dat : List UInt8) (B1 : Option Addr) (m1 d1 : Nat) (w : World) (k1 : Bs w A1 n1 c1 p.opt) (j1 : Bs w B1 m1 d1 dat)
    (Q : Pkt) (E : Int) (hw2 : ∀ W lv, isCat lv (((grB true false ++ two ((m1 : Int) % 65536) ++ two call) ++ four seq) ++ dat) W → Bs W A1 n1 c1 p.opt → Calls Try.prog 38 #[(.agg #[.int .u8 (p).tos, .int .u16 (p).id, .bool (p).keep, .int .u8 (p).ttl, .int .u8 (p).proto, .int .u32 (p).src, .int .u32 (p).dst, .slice A1 n1 c1, .slice A2 n2 c2]), .int .u8 47, lv] W (WiPost W Q E)) (hm1 : m1 ≤ 140737488400000) :
    Calls Try.prog 16 #[(.agg #[.int .u8 (p).tos, .int .u16 (p).id, .bool (p).keep, .int .u8 (p).ttl, .int .u8 (p).proto, .int .u32 (p).src, .int .u32 (p).dst, .slice A1 n1 c1, .slice A2 n2 c2]), .agg #[.int .u16 call, .bool true, .bool false, .int .u32 seq, .int .u32 ack, .slice B1 m1 d1]] w (WiPost w Q E) := by
  have b1 := j1.max
  obtain ⟨ca0, ca1⟩ := hca
  obtain ⟨se0, se1⟩ := hse
  obtain ⟨ak0, ak1⟩ := hak
  obtain ⟨z, hz⟩ : ∃ z : Int, (m1 : Int) % 65536 = z := ⟨_, rfl⟩
  have z0 : 0 ≤ z := by omega
  have z1 : z ≤ 65535 := by omega
  have hzw : IntKind.u16.wrap (m1 : Int) = z := by rw [← hz]; simp [IntKind.wrap, IntKind.signed, IntKind.bits]
  rw [hz] at hw2
  have H1 : Hid (put16 ([ub (b0F true), ub (b1F false), ub 136, ub 11] ++ [0, 0, 0, 0]) 4 z = grB true false ++ two z ++ [0, 0]) := by unfold Hid; simp [put16, putK, two, grB]
  have H2 : Hid (put16 (grB true false ++ two z ++ [0, 0]) 6 call = grB true false ++ two z ++ two call) := by unfold Hid; simp [put16, putK, two, grB]
  have hl4 : (cu [0, 0, 0, 0]).toArray = #[.int .u8 0, .int .u8 0, .int .u8 0, .int .u8 0] := rfl
  obtain ⟨k, hk⟩ : ∃ k : Nat, w.heap.size = k := ⟨_, rfl⟩
  obtain ⟨w1, hw1⟩ : ∃ w1, ((w.alloc (.cells #[.int .u8 (p).tos, .int .u16 (p).id, .bool (p).keep, .int .u8 (p).ttl, .int .u8 (p).proto, .int .u32 (p).src, .int .u32 (p).dst, .slice A1 n1 c1, .slice A2 n2 c2] 26)).alloc (.cells #[.int .u16 call, .bool true, .bool false, .int .u32 seq, .int .u32 ack, .slice B1 m1 d1] 30)).alloc (.cells #[.int .u8 0, .int .u16 0, .bool false, .int .u8 0, .int .u8 0, .int .u32 0, .int .u32 0, .slice none 0 0, .slice none 0 0] 26) = w1 := ⟨_, rfl⟩
  have P1 : Blk w1 k #[.int .u8 (p).tos, .int .u16 (p).id, .bool (p).keep, .int .u8 (p).ttl, .int .u8 (p).proto, .int .u32 (p).src, .int .u32 (p).dst, .slice A1 n1 c1, .slice A2 n2 c2] 26 := by rw [← hw1]; exact ((blk_new w _ _ k hk).alloc _).alloc _
  have F1 : Blk w1 (k + 1) #[.int .u16 call, .bool true, .bool false, .int .u32 seq, .int .u32 ack, .slice B1 m1 d1] 30 := by rw [← hw1]; exact (blk_new _ _ _ (k + 1) (by simp [hk])).alloc _
  have Z1 : Blk w1 (k + 1 + 1) #[.int .u8 0, .int .u16 0, .bool false, .int .u8 0, .int .u8 0, .int .u32 0, .int .u32 0, .slice none 0 0, .slice none 0 0] 26 := by rw [← hw1]; exact blk_new _ _ _ (k + 1 + 1) (by simp [hk])
  have R1 : Below w.heap.size w w1 := by rw [← hw1]; (repeat (first | with_reducible exact Below.refl _ _ | with_reducible refine below_drew ?_ | with_reducible refine below_drewN ?_ _ | with_reducible refine below_alloc ?_ (Nat.le_refl _) _ | with_reducible refine Below.setCell ?_ (by first | exact Nat.le_refl _ | (simp only []; omega)) _ | with_reducible assumption))
  have x1 := k1.below R1
  have y1 := j1.below R1
  have mc := F1.cell
  have zl1 := Z1.lt
  go_enter Try.func16, Try.ntmps16
  go_wp2_with (first
    | (go_at_call 45; ((with_reducible refine (begin_any true false _).mono ?_); rintro e w2 ⟨rfl, hB2⟩); (obtain ⟨w3, hw3⟩ : ∃ w3, w2.alloc (.cells #[.int .u8 (b0F true), .int .u8 (b1F false), .int .u8 136, .int .u8 11] 61) = w3 := ⟨_, rfl⟩); have G3 : Blk w3 w2.heap.size #[.int .u8 (b0F true), .int .u8 (b1F false), .int .u8 136, .int .u8 11] 61 := (by rw [← hw3]; exact blk_new w2 _ _ _ rfl); have V3 : Below w2.heap.size w2 w3 := (by rw [← hw3]; (repeat (first | with_reducible exact Below.refl _ _ | with_reducible refine below_drew ?_ | with_reducible refine below_drewN ?_ _ | with_reducible refine below_alloc ?_ (Nat.le_refl _) _ | with_reducible refine Below.setCell ?_ (by first | exact Nat.le_refl _ | (simp only []; omega)) _ | with_reducible assumption))); (obtain ⟨A4, c4, w4, hrun, O4, hB4⟩ := app_first w3 w2.heap.size (b0F true) (b1F false) (b0F_bd _).1 (b0F_bd _).2 (b1F_bd _).1 (b1F_bd _).2 G3))
    | (at_builtin; refine Lib.wpList_append_run _ rfl _ _ _ _ rfl _ _ rfl rfl _ _ hrun ?_))
  have T3 := below_then hB2 V3
  have T4 := below_then T3 hB4
  have F4 := F1.below T4
  have o4 := O4.bs
  have s3 := T3.size
  have s4 := hB4.size
  have hc4 : 8 ≤ c4 := o4.cap
  refine region_txt 9 (by kernel_rfl) (by kernel_rfl) ?_; (iterate 9 (first | (apply ObsK.skip (by rfl)) | (apply ObsK.v (by rfl); (intro wo hT; (repeat (first | (intro v hv; ((obtain ⟨A5, n5, c5, rfl, o5⟩ := hv; have u5 : n5 = 8 := (by rw [← o5.len]; rfl); subst u5; have ob5 := o5.bs))) | (intro _ _ k; try have hcv := cv k))); (have mc := (F4.below hT).cell; have bo := o4.below hT; have hsz : w4.heap.size ≤ wo.heap.size := hT.size); refine Goes.mk ?_; go_simp; first | exact goes_v | exact goes_b (by assumption) | (refine goes_enter ?_; first | (go_at_call 39; ((with_reducible refine (put16_any A4 8 c4 _ 4 z z0 z1 wo bo).mono ?_); rintro e w9 ⟨A9, c9, rfl, ho9, hB9⟩); rw [H1.out] at ho9; exact ret_p (own_isW ho9 hsz) hB9) | (go_at_call 39; ((with_reducible refine (put16_any A5 8 c5 _ 6 call ca0 ca1 wo ob5).mono ?_); rintro e w9 ⟨A9, c9, rfl, ho9, hB9⟩); rw [H2.out] at ho9; exact ret_p (own_isW ho9 hsz) hB9)))) | (apply ObsK.b (by rfl); (intro wo hT; (repeat (first | (intro v hv; ((obtain ⟨A5, n5, c5, rfl, o5⟩ := hv; have u5 : n5 = 8 := (by rw [← o5.len]; rfl); subst u5; have ob5 := o5.bs))) | (intro _ _ k; try have hcv := cv k))); (have mc := (F4.below hT).cell; have bo := o4.below hT; have hsz : w4.heap.size ≤ wo.heap.size := hT.size); refine Goes.mk ?_; go_simp; first | exact goes_v | exact goes_b (by assumption) | (refine goes_enter ?_; first | (go_at_call 39; ((with_reducible refine (put16_any A4 8 c4 _ 4 z z0 z1 wo bo).mono ?_); rintro e w9 ⟨A9, c9, rfl, ho9, hB9⟩); rw [H1.out] at ho9; exact ret_p (own_isW ho9 hsz) hB9) | (go_at_call 39; ((with_reducible refine (put16_any A5 8 c5 _ 6 call ca0 ca1 wo ob5).mono ?_); rintro e w9 ⟨A9, c9, rfl, ho9, hB9⟩); rw [H2.out] at ho9; exact ret_p (own_isW ho9 hsz) hB9)))) | (apply ObsK.p (q := isW w4.heap.size _) (by rfl) st_isW; (intro wo hT; (repeat (first | (intro v hv; ((obtain ⟨A5, n5, c5, rfl, o5⟩ := hv; have u5 : n5 = 8 := (by rw [← o5.len]; rfl); subst u5; have ob5 := o5.bs))) | (intro _ _ k; try have hcv := cv k))); (have mc := (F4.below hT).cell; have bo := o4.below hT; have hsz : w4.heap.size ≤ wo.heap.size := hT.size); refine Goes.mk ?_; go_simp; first | exact goes_v | exact goes_b (by assumption) | (refine goes_enter ?_; first | (go_at_call 39; ((with_reducible refine (put16_any A4 8 c4 _ 4 z z0 z1 wo bo).mono ?_); rintro e w9 ⟨A9, c9, rfl, ho9, hB9⟩); rw [H1.out] at ho9; exact ret_p (own_isW ho9 hsz) hB9) | (go_at_call 39; ((with_reducible refine (put16_any A5 8 c5 _ 6 call ca0 ca1 wo ob5).mono ?_); rintro e w9 ⟨A9, c9, rfl, ho9, hB9⟩); rw [H2.out] at ho9; exact ret_p (own_isW ho9 hsz) hB9)))))); refine ObsK.nil ?_; intro wz hBz; simp only [finOn, List.drop_succ_cons, List.drop_zero, List.drop_nil]
  rintro v6 ⟨A6, n6, c6, rfl, O6⟩ v7 hv7
  clear hv7
  have u6 : n6 = 8 := by rw [← O6.len]; rfl
  subst u6
  go_simp
  have T6 := below_then T4 hBz
  have P6 := P1.below T6
  have F6 := F1.below T6
  have Z6 := Z1.below T6
  have x6 := x1.below T6
  have y6 := y1.below T6
  have mc6 := F6.cell
  have sz6 := hBz.size
  generalize wz = w6 at *
  clear hBz o4 O4 hrun hB4 G3 hw3 V3 T3 F4 hw1 mc T4
  go_wp2_with fail
  obtain ⟨g7, rfl, gl7, gh7⟩ := O6.ptr (by omega)
  have H7a : Hid (put32 ((grB true false ++ two z ++ two call) ++ [0, 0, 0, 0]) 8 seq = (grB true false ++ two z ++ two call) ++ four seq) := by unfold Hid; simp [put32, putK, two, four, grB]
  have sl7 : w1.heap.size ≤ g7 := by omega
  refine regionX 8 [2] g7 (fun c W => match c with | 0 => Own W w4.heap.size 5 (some ⟨g7, 0, none⟩) 8 c6 (grB true false ++ two z ++ two call) | _ + 1 => True) (by kernel_rfl) (by kernel_rfl) (by kernel_rfl) O6 (fun c W W' hj hb => by cases c with | zero => exact Own.below hj hb | succ n => trivial) ?_; (iterate 8 (first | (apply ObsX.skip (by rfl) (by rfl)) | (apply ObsX.v (by rfl) (by rfl); (intro wo hE; (repeat (first | (intro v hv; ((first | (obtain ⟨Aq, cq, rfl, oq, oq'⟩ := hv) | (obtain ⟨Ap, np, cp, rfl, op⟩ := hv; have up : np = 12 := (by rw [← op.len]; rfl); subst up; have obp := op.bs)))) | (intro _ _ k; try have hcv := cv k))); (have mc := (F6.ext hE (by omega)).cell; have hsz := hE.size; have glx := gh7); refine Goes.mk ?_; first | (exact goes_appX _ _ rfl rfl hj (fun k e => by simp [Value.ownBlock] at e; exact e.symm) rfl oq (by omega) (by omega) (fun _ => trivial)) | (go_simp; first | exact goes_v | exact goes_litN hl4 rfl (by omega) (by omega) | (refine goes_enter ?_; first | (go_at_call 37; ((with_reducible refine (put32_any Ap 12 cp _ 8 seq se0 se1 wo obp).mono ?_); rintro e w9 ⟨A9, c9, rfl, ho9, hB9⟩); rw [H7a.out] at ho9; exact ret_p (own_isW ho9 hsz) hB9))))) | (apply ObsX.p (q := isN g7 4 [0, 0, 0, 0]) (by rfl) (by rfl) st_isN sx_isN; (intro wo hE; (repeat (first | (intro v hv; ((first | (obtain ⟨Aq, cq, rfl, oq, oq'⟩ := hv) | (obtain ⟨Ap, np, cp, rfl, op⟩ := hv; have up : np = 12 := (by rw [← op.len]; rfl); subst up; have obp := op.bs)))) | (intro _ _ k; try have hcv := cv k))); (have mc := (F6.ext hE (by omega)).cell; have hsz := hE.size; have glx := gh7); refine Goes.mk ?_; first | (exact goes_appX _ _ rfl rfl hj (fun k e => by simp [Value.ownBlock] at e; exact e.symm) rfl oq (by omega) (by omega) (fun _ => trivial)) | (go_simp; first | exact goes_v | exact goes_litN hl4 rfl (by omega) (by omega) | (refine goes_enter ?_; first | (go_at_call 37; ((with_reducible refine (put32_any Ap 12 cp _ 8 seq se0 se1 wo obp).mono ?_); rintro e w9 ⟨A9, c9, rfl, ho9, hB9⟩); rw [H7a.out] at ho9; exact ret_p (own_isW ho9 hsz) hB9))))) | (apply ObsX.p (q := isW w6.heap.size _) (by rfl) (by rfl) st_isW (sx_isW gh7); (intro wo hE; (repeat (first | (intro v hv; ((first | (obtain ⟨Aq, cq, rfl, oq, oq'⟩ := hv) | (obtain ⟨Ap, np, cp, rfl, op⟩ := hv; have up : np = 12 := (by rw [← op.len]; rfl); subst up; have obp := op.bs)))) | (intro _ _ k; try have hcv := cv k))); (have mc := (F6.ext hE (by omega)).cell; have hsz := hE.size; have glx := gh7); refine Goes.mk ?_; first | (exact goes_appX _ _ rfl rfl hj (fun k e => by simp [Value.ownBlock] at e; exact e.symm) rfl oq (by omega) (by omega) (fun _ => trivial)) | (go_simp; first | exact goes_v | exact goes_litN hl4 rfl (by omega) (by omega) | (refine goes_enter ?_; first | (go_at_call 37; ((with_reducible refine (put32_any Ap 12 cp _ 8 seq se0 se1 wo obp).mono ?_); rintro e w9 ⟨A9, c9, rfl, ho9, hB9⟩); rw [H7a.out] at ho9; exact ret_p (own_isW ho9 hsz) hB9))))) | (apply ObsX.ev (by rfl) (by rfl); (intro wo hE hj; (repeat (first | (intro v hv; ((first | (obtain ⟨Aq, cq, rfl, oq, oq'⟩ := hv) | (obtain ⟨Ap, np, cp, rfl, op⟩ := hv; have up : np = 12 := (by rw [← op.len]; rfl); subst up; have obp := op.bs)))) | (intro _ _ k; try have hcv := cv k))); (have mc := (F6.ext hE (by omega)).cell; have hsz := hE.size; have glx := gh7); refine GoesX.mk ?_; first | (exact goes_appX _ _ rfl rfl hj (fun k e => by simp [Value.ownBlock] at e; exact e.symm) rfl oq (by omega) (by omega) (fun _ => trivial)) | (go_simp; first | exact goes_v | exact goes_litN hl4 rfl (by omega) (by omega) | (refine goes_enter ?_; first | (go_at_call 37; ((with_reducible refine (put32_any Ap 12 cp _ 8 seq se0 se1 wo obp).mono ?_); rintro e w9 ⟨A9, c9, rfl, ho9, hB9⟩); rw [H7a.out] at ho9; exact ret_p (own_isW ho9 hsz) hB9))))) | (apply ObsX.ep (q := isN g7 4 [0, 0, 0, 0]) (by rfl) (by rfl) (by rfl) st_isN; (intro wo hE hj; (repeat (first | (intro v hv; ((first | (obtain ⟨Aq, cq, rfl, oq, oq'⟩ := hv) | (obtain ⟨Ap, np, cp, rfl, op⟩ := hv; have up : np = 12 := (by rw [← op.len]; rfl); subst up; have obp := op.bs)))) | (intro _ _ k; try have hcv := cv k))); (have mc := (F6.ext hE (by omega)).cell; have hsz := hE.size; have glx := gh7); refine GoesX.mk ?_; first | (exact goes_appX _ _ rfl rfl hj (fun k e => by simp [Value.ownBlock] at e; exact e.symm) rfl oq (by omega) (by omega) (fun _ => trivial)) | (go_simp; first | exact goes_v | exact goes_litN hl4 rfl (by omega) (by omega) | (refine goes_enter ?_; first | (go_at_call 37; ((with_reducible refine (put32_any Ap 12 cp _ 8 seq se0 se1 wo obp).mono ?_); rintro e w9 ⟨A9, c9, rfl, ho9, hB9⟩); rw [H7a.out] at ho9; exact ret_p (own_isW ho9 hsz) hB9))))) | (apply ObsX.ep (q := isW w6.heap.size _) (by rfl) (by rfl) (by rfl) st_isW; (intro wo hE hj; (repeat (first | (intro v hv; ((first | (obtain ⟨Aq, cq, rfl, oq, oq'⟩ := hv) | (obtain ⟨Ap, np, cp, rfl, op⟩ := hv; have up : np = 12 := (by rw [← op.len]; rfl); subst up; have obp := op.bs)))) | (intro _ _ k; try have hcv := cv k))); (have mc := (F6.ext hE (by omega)).cell; have hsz := hE.size; have glx := gh7); refine GoesX.mk ?_; first | (exact goes_appX _ _ rfl rfl hj (fun k e => by simp [Value.ownBlock] at e; exact e.symm) rfl oq (by omega) (by omega) (fun _ => trivial)) | (go_simp; first | exact goes_v | exact goes_litN hl4 rfl (by omega) (by omega) | (refine goes_enter ?_; first | (go_at_call 37; ((with_reducible refine (put32_any Ap 12 cp _ 8 seq se0 se1 wo obp).mono ?_); rintro e w9 ⟨A9, c9, rfl, ho9, hB9⟩); rw [H7a.out] at ho9; exact ret_p (own_isW ho9 hsz) hB9))))) | (apply ObsX.ep (q := isW w4.heap.size _) (by rfl) (by rfl) (by rfl) st_isW; (intro wo hE hj; (repeat (first | (intro v hv; ((first | (obtain ⟨Aq, cq, rfl, oq, oq'⟩ := hv) | (obtain ⟨Ap, np, cp, rfl, op⟩ := hv; have up : np = 12 := (by rw [← op.len]; rfl); subst up; have obp := op.bs)))) | (intro _ _ k; try have hcv := cv k))); (have mc := (F6.ext hE (by omega)).cell; have hsz := hE.size; have glx := gh7); refine GoesX.mk ?_; first | (exact goes_appX _ _ rfl rfl hj (fun k e => by simp [Value.ownBlock] at e; exact e.symm) rfl oq (by omega) (by omega) (fun _ => trivial)) | (go_simp; first | exact goes_v | exact goes_litN hl4 rfl (by omega) (by omega) | (refine goes_enter ?_; first | (go_at_call 37; ((with_reducible refine (put32_any Ap 12 cp _ 8 seq se0 se1 wo obp).mono ?_); rintro e w9 ⟨A9, c9, rfl, ho9, hB9⟩); rw [H7a.out] at ho9; exact ret_p (own_isW ho9 hsz) hB9))))))); refine ObsX.nil ?_; intro wz hEz hJz; simp only [finOn, List.drop_succ_cons, List.drop_zero, List.drop_nil]
  rintro v1 ⟨A7, n7, c7, rfl, O7⟩ v2 hv2 v3 hv3
  clear hv2 hv3
  have u7 : n7 = 12 := by rw [← O7.len]; rfl
  subst u7
  go_simp
  have T7 := below_ext T6 hEz sl7 T6.size
  have P7 := P6.ext hEz (by omega)
  have F7 := F6.ext hEz (by omega)
  have Z7 := Z6.ext hEz (by omega)
  have x7 := x1.below T7
  have y7 := y1.below T7
  have mc7 := F7.cell
  have sz7 : w6.heap.size ≤ wz.heap.size := hEz.size
  generalize wz = w7 at *
  clear hEz hJz mc6 O6
  obtain ⟨w9, hw9⟩ : ∃ w9, w7.alloc (.cells #[.slice A7 12 c7, .slice B1 m1 d1] 24) = w9 := ⟨_, rfl⟩
  have G9 : Blk w9 w7.heap.size #[.slice A7 12 c7, .slice B1 m1 d1] 24 := by rw [← hw9]; exact blk_new w7 _ _ _ rfl
  have V9 : Below w7.heap.size w7 w9 := by rw [← hw9]; (repeat (first | with_reducible exact Below.refl _ _ | with_reducible refine below_drew ?_ | with_reducible refine below_drewN ?_ _ | with_reducible refine below_alloc ?_ (Nat.le_refl _) _ | with_reducible refine Below.setCell ?_ (by first | exact Nat.le_refl _ | (simp only []; omega)) _ | with_reducible assumption))
  have o7 := O7.bs
  have hcat := isCat2 G9 (o7.below V9) (y7.below V9) (cc := 2) (by omega)
  have T9 := below_then T7 V9
  have pc7 := P7.cell
  have s9 := (below_then R1 T9).size
  have kz : k + 1 + 1 < w9.heap.size := (Z7.below V9).lt
  go_wp2_with (go_at_call 38; ((with_reducible refine (hw2 w9 _ hcat (x7.below V9)).mono ?_); rintro e w10 ⟨⟨C1, e1, f1, C2, e2, f2, rfl, O1, O2, hB10⟩⟩); have T10 := below_then T9 hB10; have Z10 := Z1.below T10; have zc10 := Z10.cell)
  obtain ⟨wf, hwf, Sf⟩ := store9 Z10 (.int .u8 Q.tos) (.int .u16 Q.id) (.bool Q.keep) (.int .u8 Q.ttl) (.int .u8 Q.proto) (.int .u32 Q.src) (.int .u32 Q.dst) (.slice C1 e1 f1) (.slice C2 e2 f2)
  rw [hwf]
  have pf := Sf.blk.cell
  have Of := Sf.own O1 (fun a e => by have := O1.ge a e; omega)
  have Df := Sf.own O2 (fun a e => by have := O2.ge a e; omega)
  refine bodyPost_ret (v := .tuple #[(.agg #[.int .u8 (Q).tos, .int .u16 (Q).id, .bool (Q).keep, .int .u8 (Q).ttl, .int .u8 (Q).proto, .int .u32 (Q).src, .int .u32 (Q).dst, .slice C1 e1 f1, .slice C2 e2 f2]), .int .i64 E]) (by simp [results, Try.results16, go_sem, pf]) rfl ⟨⟨C1, e1, f1, C2, e2, f2, rfl, Of.mono s9, Df.mono s9, Sf.bel (below_then R1 T10) (by omega)⟩⟩
theorem bg_ok11 (p : Pkt) (A1 : Option Addr) (n1 c1 : Nat) (A2 : Option Addr) (n2 c2 : Nat) (call : Int) (hca : 0 ≤ call ∧ call ≤ 65535) (seq ack : Int) (hse : 0 ≤ seq ∧ seq ≤ 4294967295) (hak : 0 ≤ ack ∧ ack ≤ 4294967295) (dat : List UInt8) (B1 : Option Addr) (m1 d1 : Nat) (w : World) (k1 : Bs w A1 n1 c1 p.opt) (j1 : Bs w B1 m1 d1 dat)
    (Q : Pkt) (E : Int) (hw2 : ∀ W lv, isCat lv ((((grB true true ++ two ((m1 : Int) % 65536) ++ two call) ++ four seq) ++ four ack) ++ dat) W → Bs W A1 n1 c1 p.opt → Calls Try.prog 38 #[(.agg #[.int .u8 (p).tos, .int .u16 (p).id, .bool (p).keep, .int .u8 (p).ttl, .int .u8 (p).proto, .int .u32 (p).src, .int .u32 (p).dst, .slice A1 n1 c1, .slice A2 n2 c2]), .int .u8 47, lv] W (WiPost W Q E)) (hm1 : m1 ≤ 140737488400000) :
    Calls Try.prog 16 #[(.agg #[.int .u8 (p).tos, .int .u16 (p).id, .bool (p).keep, .int .u8 (p).ttl, .int .u8 (p).proto, .int .u32 (p).src, .int .u32 (p).dst, .slice A1 n1 c1, .slice A2 n2 c2]), .agg #[.int .u16 call, .bool true, .bool true, .int .u32 seq, .int .u32 ack, .slice B1 m1 d1]] w (WiPost w Q E) := by
  have b1 := j1.max
  obtain ⟨ca0, ca1⟩ := hca
  obtain ⟨se0, se1⟩ := hse
  obtain ⟨ak0, ak1⟩ := hak
  obtain ⟨z, hz⟩ : ∃ z : Int, (m1 : Int) % 65536 = z := ⟨_, rfl⟩
  have z0 : 0 ≤ z := by omega
  have z1 : z ≤ 65535 := by omega
  have hzw : IntKind.u16.wrap (m1 : Int) = z := by rw [← hz]; simp [IntKind.wrap, IntKind.signed, IntKind.bits]
  rw [hz] at hw2
  have H1 : Hid (put16 ([ub (b0F true), ub (b1F true), ub 136, ub 11] ++ [0, 0, 0, 0]) 4 z = grB true true ++ two z ++ [0, 0]) := by unfold Hid; simp [put16, putK, two, grB]
  have H2 : Hid (put16 (grB true true ++ two z ++ [0, 0]) 6 call = grB true true ++ two z ++ two call) := by unfold Hid; simp [put16, putK, two, grB]
  have hl4 : (cu [0, 0, 0, 0]).toArray = #[.int .u8 0, .int .u8 0, .int .u8 0, .int .u8 0] := rfl
  obtain ⟨k, hk⟩ : ∃ k : Nat, w.heap.size = k := ⟨_, rfl⟩
  obtain ⟨w1, hw1⟩ : ∃ w1, ((w.alloc (.cells #[.int .u8 (p).tos, .int .u16 (p).id, .bool (p).keep, .int .u8 (p).ttl, .int .u8 (p).proto, .int .u32 (p).src, .int .u32 (p).dst, .slice A1 n1 c1, .slice A2 n2 c2] 26)).alloc (.cells #[.int .u16 call, .bool true, .bool true, .int .u32 seq, .int .u32 ack, .slice B1 m1 d1] 30)).alloc (.cells #[.int .u8 0, .int .u16 0, .bool false, .int .u8 0, .int .u8 0, .int .u32 0, .int .u32 0, .slice none 0 0, .slice none 0 0] 26) = w1 := ⟨_, rfl⟩
  have P1 : Blk w1 k #[.int .u8 (p).tos, .int .u16 (p).id, .bool (p).keep, .int .u8 (p).ttl, .int .u8 (p).proto, .int .u32 (p).src, .int .u32 (p).dst, .slice A1 n1 c1, .slice A2 n2 c2] 26 := by rw [← hw1]; exact ((blk_new w _ _ k hk).alloc _).alloc _
  have F1 : Blk w1 (k + 1) #[.int .u16 call, .bool true, .bool true, .int .u32 seq, .int .u32 ack, .slice B1 m1 d1] 30 := by rw [← hw1]; exact (blk_new _ _ _ (k + 1) (by simp [hk])).alloc _
  have Z1 : Blk w1 (k + 1 + 1) #[.int .u8 0, .int .u16 0, .bool false, .int .u8 0, .int .u8 0, .int .u32 0, .int .u32 0, .slice none 0 0, .slice none 0 0] 26 := by rw [← hw1]; exact blk_new _ _ _ (k + 1 + 1) (by simp [hk])
  have R1 : Below w.heap.size w w1 := by rw [← hw1]; (repeat (first | with_reducible exact Below.refl _ _ | with_reducible refine below_drew ?_ | with_reducible refine below_drewN ?_ _ | with_reducible refine below_alloc ?_ (Nat.le_refl _) _ | with_reducible refine Below.setCell ?_ (by first | exact Nat.le_refl _ | (simp only []; omega)) _ | with_reducible assumption))
  have x1 := k1.below R1
  have y1 := j1.below R1
  have mc := F1.cell
  have zl1 := Z1.lt
  go_enter Try.func16, Try.ntmps16
  go_wp2_with (first
    | (go_at_call 45; ((with_reducible refine (begin_any true true _).mono ?_); rintro e w2 ⟨rfl, hB2⟩); (obtain ⟨w3, hw3⟩ : ∃ w3, w2.alloc (.cells #[.int .u8 (b0F true), .int .u8 (b1F true), .int .u8 136, .int .u8 11] 61) = w3 := ⟨_, rfl⟩); have G3 : Blk w3 w2.heap.size #[.int .u8 (b0F true), .int .u8 (b1F true), .int .u8 136, .int .u8 11] 61 := (by rw [← hw3]; exact blk_new w2 _ _ _ rfl); have V3 : Below w2.heap.size w2 w3 := (by rw [← hw3]; (repeat (first | with_reducible exact Below.refl _ _ | with_reducible refine below_drew ?_ | with_reducible refine below_drewN ?_ _ | with_reducible refine below_alloc ?_ (Nat.le_refl _) _ | with_reducible refine Below.setCell ?_ (by first | exact Nat.le_refl _ | (simp only []; omega)) _ | with_reducible assumption))); (obtain ⟨A4, c4, w4, hrun, O4, hB4⟩ := app_first w3 w2.heap.size (b0F true) (b1F true) (b0F_bd _).1 (b0F_bd _).2 (b1F_bd _).1 (b1F_bd _).2 G3))
    | (at_builtin; refine Lib.wpList_append_run _ rfl _ _ _ _ rfl _ _ rfl rfl _ _ hrun ?_))
  have T3 := below_then hB2 V3
  have T4 := below_then T3 hB4
  have F4 := F1.below T4
  have o4 := O4.bs
  have s3 := T3.size
  have s4 := hB4.size
  have hc4 : 8 ≤ c4 := o4.cap
  refine region_txt 9 (by kernel_rfl) (by kernel_rfl) ?_; (iterate 9 (first | (apply ObsK.skip (by rfl)) | (apply ObsK.v (by rfl); (intro wo hT; (repeat (first | (intro v hv; ((obtain ⟨A5, n5, c5, rfl, o5⟩ := hv; have u5 : n5 = 8 := (by rw [← o5.len]; rfl); subst u5; have ob5 := o5.bs))) | (intro _ _ k; try have hcv := cv k))); (have mc := (F4.below hT).cell; have bo := o4.below hT; have hsz : w4.heap.size ≤ wo.heap.size := hT.size); refine Goes.mk ?_; go_simp; first | exact goes_v | exact goes_b (by assumption) | (refine goes_enter ?_; first | (go_at_call 39; ((with_reducible refine (put16_any A4 8 c4 _ 4 z z0 z1 wo bo).mono ?_); rintro e w9 ⟨A9, c9, rfl, ho9, hB9⟩); rw [H1.out] at ho9; exact ret_p (own_isW ho9 hsz) hB9) | (go_at_call 39; ((with_reducible refine (put16_any A5 8 c5 _ 6 call ca0 ca1 wo ob5).mono ?_); rintro e w9 ⟨A9, c9, rfl, ho9, hB9⟩); rw [H2.out] at ho9; exact ret_p (own_isW ho9 hsz) hB9)))) | (apply ObsK.b (by rfl); (intro wo hT; (repeat (first | (intro v hv; ((obtain ⟨A5, n5, c5, rfl, o5⟩ := hv; have u5 : n5 = 8 := (by rw [← o5.len]; rfl); subst u5; have ob5 := o5.bs))) | (intro _ _ k; try have hcv := cv k))); (have mc := (F4.below hT).cell; have bo := o4.below hT; have hsz : w4.heap.size ≤ wo.heap.size := hT.size); refine Goes.mk ?_; go_simp; first | exact goes_v | exact goes_b (by assumption) | (refine goes_enter ?_; first | (go_at_call 39; ((with_reducible refine (put16_any A4 8 c4 _ 4 z z0 z1 wo bo).mono ?_); rintro e w9 ⟨A9, c9, rfl, ho9, hB9⟩); rw [H1.out] at ho9; exact ret_p (own_isW ho9 hsz) hB9) | (go_at_call 39; ((with_reducible refine (put16_any A5 8 c5 _ 6 call ca0 ca1 wo ob5).mono ?_); rintro e w9 ⟨A9, c9, rfl, ho9, hB9⟩); rw [H2.out] at ho9; exact ret_p (own_isW ho9 hsz) hB9)))) | (apply ObsK.p (q := isW w4.heap.size _) (by rfl) st_isW; (intro wo hT; (repeat (first | (intro v hv; ((obtain ⟨A5, n5, c5, rfl, o5⟩ := hv; have u5 : n5 = 8 := (by rw [← o5.len]; rfl); subst u5; have ob5 := o5.bs))) | (intro _ _ k; try have hcv := cv k))); (have mc := (F4.below hT).cell; have bo := o4.below hT; have hsz : w4.heap.size ≤ wo.heap.size := hT.size); refine Goes.mk ?_; go_simp; first | exact goes_v | exact goes_b (by assumption) | (refine goes_enter ?_; first | (go_at_call 39; ((with_reducible refine (put16_any A4 8 c4 _ 4 z z0 z1 wo bo).mono ?_); rintro e w9 ⟨A9, c9, rfl, ho9, hB9⟩); rw [H1.out] at ho9; exact ret_p (own_isW ho9 hsz) hB9) | (go_at_call 39; ((with_reducible refine (put16_any A5 8 c5 _ 6 call ca0 ca1 wo ob5).mono ?_); rintro e w9 ⟨A9, c9, rfl, ho9, hB9⟩); rw [H2.out] at ho9; exact ret_p (own_isW ho9 hsz) hB9)))))); refine ObsK.nil ?_; intro wz hBz; simp only [finOn, List.drop_succ_cons, List.drop_zero, List.drop_nil]
  rintro v6 ⟨A6, n6, c6, rfl, O6⟩ v7 hv7
  clear hv7
  have u6 : n6 = 8 := by rw [← O6.len]; rfl
  subst u6
  go_simp
  have T6 := below_then T4 hBz
  have P6 := P1.below T6
  have F6 := F1.below T6
  have Z6 := Z1.below T6
  have x6 := x1.below T6
  have y6 := y1.below T6
  have mc6 := F6.cell
  have sz6 := hBz.size
  generalize wz = w6 at *
  clear hBz o4 O4 hrun hB4 G3 hw3 V3 T3 F4 hw1 mc T4
  go_wp2_with fail
  obtain ⟨g7, rfl, gl7, gh7⟩ := O6.ptr (by omega)
  have H7a : Hid (put32 ((grB true true ++ two z ++ two call) ++ [0, 0, 0, 0]) 8 seq = (grB true true ++ two z ++ two call) ++ four seq) := by unfold Hid; simp [put32, putK, two, four, grB]
  have sl7 : w1.heap.size ≤ g7 := by omega
  refine regionX 8 [2] g7 (fun c W => match c with | 0 => Own W w4.heap.size 5 (some ⟨g7, 0, none⟩) 8 c6 (grB true true ++ two z ++ two call) | _ + 1 => True) (by kernel_rfl) (by kernel_rfl) (by kernel_rfl) O6 (fun c W W' hj hb => by cases c with | zero => exact Own.below hj hb | succ n => trivial) ?_; (iterate 8 (first | (apply ObsX.skip (by rfl) (by rfl)) | (apply ObsX.v (by rfl) (by rfl); (intro wo hE; (repeat (first | (intro v hv; ((first | (obtain ⟨Aq, cq, rfl, oq, oq'⟩ := hv) | (obtain ⟨Ap, np, cp, rfl, op⟩ := hv; have up : np = 12 := (by rw [← op.len]; rfl); subst up; have obp := op.bs)))) | (intro _ _ k; try have hcv := cv k))); (have mc := (F6.ext hE (by omega)).cell; have hsz := hE.size; have glx := gh7); refine Goes.mk ?_; first | (exact goes_appX _ _ rfl rfl hj (fun k e => by simp [Value.ownBlock] at e; exact e.symm) rfl oq (by omega) (by omega) (fun _ => trivial)) | (go_simp; first | exact goes_v | exact goes_litN hl4 rfl (by omega) (by omega) | (refine goes_enter ?_; first | (go_at_call 37; ((with_reducible refine (put32_any Ap 12 cp _ 8 seq se0 se1 wo obp).mono ?_); rintro e w9 ⟨A9, c9, rfl, ho9, hB9⟩); rw [H7a.out] at ho9; exact ret_p (own_isW ho9 hsz) hB9))))) | (apply ObsX.p (q := isN g7 4 [0, 0, 0, 0]) (by rfl) (by rfl) st_isN sx_isN; (intro wo hE; (repeat (first | (intro v hv; ((first | (obtain ⟨Aq, cq, rfl, oq, oq'⟩ := hv) | (obtain ⟨Ap, np, cp, rfl, op⟩ := hv; have up : np = 12 := (by rw [← op.len]; rfl); subst up; have obp := op.bs)))) | (intro _ _ k; try have hcv := cv k))); (have mc := (F6.ext hE (by omega)).cell; have hsz := hE.size; have glx := gh7); refine Goes.mk ?_; first | (exact goes_appX _ _ rfl rfl hj (fun k e => by simp [Value.ownBlock] at e; exact e.symm) rfl oq (by omega) (by omega) (fun _ => trivial)) | (go_simp; first | exact goes_v | exact goes_litN hl4 rfl (by omega) (by omega) | (refine goes_enter ?_; first | (go_at_call 37; ((with_reducible refine (put32_any Ap 12 cp _ 8 seq se0 se1 wo obp).mono ?_); rintro e w9 ⟨A9, c9, rfl, ho9, hB9⟩); rw [H7a.out] at ho9; exact ret_p (own_isW ho9 hsz) hB9))))) | (apply ObsX.p (q := isW w6.heap.size _) (by rfl) (by rfl) st_isW (sx_isW gh7); (intro wo hE; (repeat (first | (intro v hv; ((first | (obtain ⟨Aq, cq, rfl, oq, oq'⟩ := hv) | (obtain ⟨Ap, np, cp, rfl, op⟩ := hv; have up : np = 12 := (by rw [← op.len]; rfl); subst up; have obp := op.bs)))) | (intro _ _ k; try have hcv := cv k))); (have mc := (F6.ext hE (by omega)).cell; have hsz := hE.size; have glx := gh7); refine Goes.mk ?_; first | (exact goes_appX _ _ rfl rfl hj (fun k e => by simp [Value.ownBlock] at e; exact e.symm) rfl oq (by omega) (by omega) (fun _ => trivial)) | (go_simp; first | exact goes_v | exact goes_litN hl4 rfl (by omega) (by omega) | (refine goes_enter ?_; first | (go_at_call 37; ((with_reducible refine (put32_any Ap 12 cp _ 8 seq se0 se1 wo obp).mono ?_); rintro e w9 ⟨A9, c9, rfl, ho9, hB9⟩); rw [H7a.out] at ho9; exact ret_p (own_isW ho9 hsz) hB9))))) | (apply ObsX.ev (by rfl) (by rfl); (intro wo hE hj; (repeat (first | (intro v hv; ((first | (obtain ⟨Aq, cq, rfl, oq, oq'⟩ := hv) | (obtain ⟨Ap, np, cp, rfl, op⟩ := hv; have up : np = 12 := (by rw [← op.len]; rfl); subst up; have obp := op.bs)))) | (intro _ _ k; try have hcv := cv k))); (have mc := (F6.ext hE (by omega)).cell; have hsz := hE.size; have glx := gh7); refine GoesX.mk ?_; first | (exact goes_appX _ _ rfl rfl hj (fun k e => by simp [Value.ownBlock] at e; exact e.symm) rfl oq (by omega) (by omega) (fun _ => trivial)) | (go_simp; first | exact goes_v | exact goes_litN hl4 rfl (by omega) (by omega) | (refine goes_enter ?_; first | (go_at_call 37; ((with_reducible refine (put32_any Ap 12 cp _ 8 seq se0 se1 wo obp).mono ?_); rintro e w9 ⟨A9, c9, rfl, ho9, hB9⟩); rw [H7a.out] at ho9; exact ret_p (own_isW ho9 hsz) hB9))))) | (apply ObsX.ep (q := isN g7 4 [0, 0, 0, 0]) (by rfl) (by rfl) (by rfl) st_isN; (intro wo hE hj; (repeat (first | (intro v hv; ((first | (obtain ⟨Aq, cq, rfl, oq, oq'⟩ := hv) | (obtain ⟨Ap, np, cp, rfl, op⟩ := hv; have up : np = 12 := (by rw [← op.len]; rfl); subst up; have obp := op.bs)))) | (intro _ _ k; try have hcv := cv k))); (have mc := (F6.ext hE (by omega)).cell; have hsz := hE.size; have glx := gh7); refine GoesX.mk ?_; first | (exact goes_appX _ _ rfl rfl hj (fun k e => by simp [Value.ownBlock] at e; exact e.symm) rfl oq (by omega) (by omega) (fun _ => trivial)) | (go_simp; first | exact goes_v | exact goes_litN hl4 rfl (by omega) (by omega) | (refine goes_enter ?_; first | (go_at_call 37; ((with_reducible refine (put32_any Ap 12 cp _ 8 seq se0 se1 wo obp).mono ?_); rintro e w9 ⟨A9, c9, rfl, ho9, hB9⟩); rw [H7a.out] at ho9; exact ret_p (own_isW ho9 hsz) hB9))))) | (apply ObsX.ep (q := isW w6.heap.size _) (by rfl) (by rfl) (by rfl) st_isW; (intro wo hE hj; (repeat (first | (intro v hv; ((first | (obtain ⟨Aq, cq, rfl, oq, oq'⟩ := hv) | (obtain ⟨Ap, np, cp, rfl, op⟩ := hv; have up : np = 12 := (by rw [← op.len]; rfl); subst up; have obp := op.bs)))) | (intro _ _ k; try have hcv := cv k))); (have mc := (F6.ext hE (by omega)).cell; have hsz := hE.size; have glx := gh7); refine GoesX.mk ?_; first | (exact goes_appX _ _ rfl rfl hj (fun k e => by simp [Value.ownBlock] at e; exact e.symm) rfl oq (by omega) (by omega) (fun _ => trivial)) | (go_simp; first | exact goes_v | exact goes_litN hl4 rfl (by omega) (by omega) | (refine goes_enter ?_; first | (go_at_call 37; ((with_reducible refine (put32_any Ap 12 cp _ 8 seq se0 se1 wo obp).mono ?_); rintro e w9 ⟨A9, c9, rfl, ho9, hB9⟩); rw [H7a.out] at ho9; exact ret_p (own_isW ho9 hsz) hB9))))) | (apply ObsX.ep (q := isW w4.heap.size _) (by rfl) (by rfl) (by rfl) st_isW; (intro wo hE hj; (repeat (first | (intro v hv; ((first | (obtain ⟨Aq, cq, rfl, oq, oq'⟩ := hv) | (obtain ⟨Ap, np, cp, rfl, op⟩ := hv; have up : np = 12 := (by rw [← op.len]; rfl); subst up; have obp := op.bs)))) | (intro _ _ k; try have hcv := cv k))); (have mc := (F6.ext hE (by omega)).cell; have hsz := hE.size; have glx := gh7); refine GoesX.mk ?_; first | (exact goes_appX _ _ rfl rfl hj (fun k e => by simp [Value.ownBlock] at e; exact e.symm) rfl oq (by omega) (by omega) (fun _ => trivial)) | (go_simp; first | exact goes_v | exact goes_litN hl4 rfl (by omega) (by omega) | (refine goes_enter ?_; first | (go_at_call 37; ((with_reducible refine (put32_any Ap 12 cp _ 8 seq se0 se1 wo obp).mono ?_); rintro e w9 ⟨A9, c9, rfl, ho9, hB9⟩); rw [H7a.out] at ho9; exact ret_p (own_isW ho9 hsz) hB9))))))); refine ObsX.nil ?_; intro wz hEz hJz; simp only [finOn, List.drop_succ_cons, List.drop_zero, List.drop_nil]
  rintro v1 ⟨A7, n7, c7, rfl, O7⟩ v2 hv2 v3 hv3
  clear hv2 hv3
  have u7 : n7 = 12 := by rw [← O7.len]; rfl
  subst u7
  go_simp
  have T7 := below_ext T6 hEz sl7 T6.size
  have P7 := P6.ext hEz (by omega)
  have F7 := F6.ext hEz (by omega)
  have Z7 := Z6.ext hEz (by omega)
  have x7 := x1.below T7
  have y7 := y1.below T7
  have mc7 := F7.cell
  have sz7 : w6.heap.size ≤ wz.heap.size := hEz.size
  generalize wz = w7 at *
  clear hEz hJz mc6 O6
  go_wp2_with fail
  obtain ⟨g8, rfl, gl8, gh8⟩ := O7.ptr (by omega)
  have H8a : Hid (put32 (((grB true true ++ two z ++ two call) ++ four seq) ++ [0, 0, 0, 0]) 12 ack = ((grB true true ++ two z ++ two call) ++ four seq) ++ four ack) := by unfold Hid; simp [put32, putK, two, four, grB]
  have sl8 : w1.heap.size ≤ g8 := by omega
  refine regionX 8 [2] g8 (fun c W => match c with | 0 => Own W w6.heap.size 5 (some ⟨g8, 0, none⟩) 12 c7 ((grB true true ++ two z ++ two call) ++ four seq) | _ + 1 => True) (by kernel_rfl) (by kernel_rfl) (by kernel_rfl) O7 (fun c W W' hj hb => by cases c with | zero => exact Own.below hj hb | succ n => trivial) ?_; (iterate 8 (first | (apply ObsX.skip (by rfl) (by rfl)) | (apply ObsX.v (by rfl) (by rfl); (intro wo hE; (repeat (first | (intro v hv; ((first | (obtain ⟨Aq, cq, rfl, oq, oq'⟩ := hv) | (obtain ⟨Ap, np, cp, rfl, op⟩ := hv; have up : np = 16 := (by rw [← op.len]; rfl); subst up; have obp := op.bs)))) | (intro _ _ k; try have hcv := cv k))); (have mc := (F7.ext hE (by omega)).cell; have hsz := hE.size; have glx := gh8); refine Goes.mk ?_; first | (exact goes_appX _ _ rfl rfl hj (fun k e => by simp [Value.ownBlock] at e; exact e.symm) rfl oq (by omega) (by omega) (fun _ => trivial)) | (go_simp; first | exact goes_v | exact goes_litN hl4 rfl (by omega) (by omega) | (refine goes_enter ?_; first | (go_at_call 37; ((with_reducible refine (put32_any Ap 16 cp _ 12 ack ak0 ak1 wo obp).mono ?_); rintro e w9 ⟨A9, c9, rfl, ho9, hB9⟩); rw [H8a.out] at ho9; exact ret_p (own_isW ho9 hsz) hB9))))) | (apply ObsX.p (q := isN g8 4 [0, 0, 0, 0]) (by rfl) (by rfl) st_isN sx_isN; (intro wo hE; (repeat (first | (intro v hv; ((first | (obtain ⟨Aq, cq, rfl, oq, oq'⟩ := hv) | (obtain ⟨Ap, np, cp, rfl, op⟩ := hv; have up : np = 16 := (by rw [← op.len]; rfl); subst up; have obp := op.bs)))) | (intro _ _ k; try have hcv := cv k))); (have mc := (F7.ext hE (by omega)).cell; have hsz := hE.size; have glx := gh8); refine Goes.mk ?_; first | (exact goes_appX _ _ rfl rfl hj (fun k e => by simp [Value.ownBlock] at e; exact e.symm) rfl oq (by omega) (by omega) (fun _ => trivial)) | (go_simp; first | exact goes_v | exact goes_litN hl4 rfl (by omega) (by omega) | (refine goes_enter ?_; first | (go_at_call 37; ((with_reducible refine (put32_any Ap 16 cp _ 12 ack ak0 ak1 wo obp).mono ?_); rintro e w9 ⟨A9, c9, rfl, ho9, hB9⟩); rw [H8a.out] at ho9; exact ret_p (own_isW ho9 hsz) hB9))))) | (apply ObsX.p (q := isW w7.heap.size _) (by rfl) (by rfl) st_isW (sx_isW gh8); (intro wo hE; (repeat (first | (intro v hv; ((first | (obtain ⟨Aq, cq, rfl, oq, oq'⟩ := hv) | (obtain ⟨Ap, np, cp, rfl, op⟩ := hv; have up : np = 16 := (by rw [← op.len]; rfl); subst up; have obp := op.bs)))) | (intro _ _ k; try have hcv := cv k))); (have mc := (F7.ext hE (by omega)).cell; have hsz := hE.size; have glx := gh8); refine Goes.mk ?_; first | (exact goes_appX _ _ rfl rfl hj (fun k e => by simp [Value.ownBlock] at e; exact e.symm) rfl oq (by omega) (by omega) (fun _ => trivial)) | (go_simp; first | exact goes_v | exact goes_litN hl4 rfl (by omega) (by omega) | (refine goes_enter ?_; first | (go_at_call 37; ((with_reducible refine (put32_any Ap 16 cp _ 12 ack ak0 ak1 wo obp).mono ?_); rintro e w9 ⟨A9, c9, rfl, ho9, hB9⟩); rw [H8a.out] at ho9; exact ret_p (own_isW ho9 hsz) hB9))))) | (apply ObsX.ev (by rfl) (by rfl); (intro wo hE hj; (repeat (first | (intro v hv; ((first | (obtain ⟨Aq, cq, rfl, oq, oq'⟩ := hv) | (obtain ⟨Ap, np, cp, rfl, op⟩ := hv; have up : np = 16 := (by rw [← op.len]; rfl); subst up; have obp := op.bs)))) | (intro _ _ k; try have hcv := cv k))); (have mc := (F7.ext hE (by omega)).cell; have hsz := hE.size; have glx := gh8); refine GoesX.mk ?_; first | (exact goes_appX _ _ rfl rfl hj (fun k e => by simp [Value.ownBlock] at e; exact e.symm) rfl oq (by omega) (by omega) (fun _ => trivial)) | (go_simp; first | exact goes_v | exact goes_litN hl4 rfl (by omega) (by omega) | (refine goes_enter ?_; first | (go_at_call 37; ((with_reducible refine (put32_any Ap 16 cp _ 12 ack ak0 ak1 wo obp).mono ?_); rintro e w9 ⟨A9, c9, rfl, ho9, hB9⟩); rw [H8a.out] at ho9; exact ret_p (own_isW ho9 hsz) hB9))))) | (apply ObsX.ep (q := isN g8 4 [0, 0, 0, 0]) (by rfl) (by rfl) (by rfl) st_isN; (intro wo hE hj; (repeat (first | (intro v hv; ((first | (obtain ⟨Aq, cq, rfl, oq, oq'⟩ := hv) | (obtain ⟨Ap, np, cp, rfl, op⟩ := hv; have up : np = 16 := (by rw [← op.len]; rfl); subst up; have obp := op.bs)))) | (intro _ _ k; try have hcv := cv k))); (have mc := (F7.ext hE (by omega)).cell; have hsz := hE.size; have glx := gh8); refine GoesX.mk ?_; first | (exact goes_appX _ _ rfl rfl hj (fun k e => by simp [Value.ownBlock] at e; exact e.symm) rfl oq (by omega) (by omega) (fun _ => trivial)) | (go_simp; first | exact goes_v | exact goes_litN hl4 rfl (by omega) (by omega) | (refine goes_enter ?_; first | (go_at_call 37; ((with_reducible refine (put32_any Ap 16 cp _ 12 ack ak0 ak1 wo obp).mono ?_); rintro e w9 ⟨A9, c9, rfl, ho9, hB9⟩); rw [H8a.out] at ho9; exact ret_p (own_isW ho9 hsz) hB9))))) | (apply ObsX.ep (q := isW w7.heap.size _) (by rfl) (by rfl) (by rfl) st_isW; (intro wo hE hj; (repeat (first | (intro v hv; ((first | (obtain ⟨Aq, cq, rfl, oq, oq'⟩ := hv) | (obtain ⟨Ap, np, cp, rfl, op⟩ := hv; have up : np = 16 := (by rw [← op.len]; rfl); subst up; have obp := op.bs)))) | (intro _ _ k; try have hcv := cv k))); (have mc := (F7.ext hE (by omega)).cell; have hsz := hE.size; have glx := gh8); refine GoesX.mk ?_; first | (exact goes_appX _ _ rfl rfl hj (fun k e => by simp [Value.ownBlock] at e; exact e.symm) rfl oq (by omega) (by omega) (fun _ => trivial)) | (go_simp; first | exact goes_v | exact goes_litN hl4 rfl (by omega) (by omega) | (refine goes_enter ?_; first | (go_at_call 37; ((with_reducible refine (put32_any Ap 16 cp _ 12 ack ak0 ak1 wo obp).mono ?_); rintro e w9 ⟨A9, c9, rfl, ho9, hB9⟩); rw [H8a.out] at ho9; exact ret_p (own_isW ho9 hsz) hB9))))) | (apply ObsX.ep (q := isW w6.heap.size _) (by rfl) (by rfl) (by rfl) st_isW; (intro wo hE hj; (repeat (first | (intro v hv; ((first | (obtain ⟨Aq, cq, rfl, oq, oq'⟩ := hv) | (obtain ⟨Ap, np, cp, rfl, op⟩ := hv; have up : np = 16 := (by rw [← op.len]; rfl); subst up; have obp := op.bs)))) | (intro _ _ k; try have hcv := cv k))); (have mc := (F7.ext hE (by omega)).cell; have hsz := hE.size; have glx := gh8); refine GoesX.mk ?_; first | (exact goes_appX _ _ rfl rfl hj (fun k e => by simp [Value.ownBlock] at e; exact e.symm) rfl oq (by omega) (by omega) (fun _ => trivial)) | (go_simp; first | exact goes_v | exact goes_litN hl4 rfl (by omega) (by omega) | (refine goes_enter ?_; first | (go_at_call 37; ((with_reducible refine (put32_any Ap 16 cp _ 12 ack ak0 ak1 wo obp).mono ?_); rintro e w9 ⟨A9, c9, rfl, ho9, hB9⟩); rw [H8a.out] at ho9; exact ret_p (own_isW ho9 hsz) hB9))))))); refine ObsX.nil ?_; intro wz hEz hJz; simp only [finOn, List.drop_succ_cons, List.drop_zero, List.drop_nil]
  rintro v1 ⟨A8, n8, c8, rfl, O8⟩ v2 hv2 v3 hv3
  clear hv2 hv3
  have u8 : n8 = 16 := by rw [← O8.len]; rfl
  subst u8
  go_simp
  have T8 := below_ext T7 hEz sl8 T7.size
  have P8 := P7.ext hEz (by omega)
  have F8 := F7.ext hEz (by omega)
  have Z8 := Z7.ext hEz (by omega)
  have x8 := x1.below T8
  have y8 := y1.below T8
  have mc8 := F8.cell
  have sz8 : w7.heap.size ≤ wz.heap.size := hEz.size
  generalize wz = w8 at *
  clear hEz hJz mc7 O7
  obtain ⟨w9, hw9⟩ : ∃ w9, w8.alloc (.cells #[.slice A8 16 c8, .slice B1 m1 d1] 24) = w9 := ⟨_, rfl⟩
  have G9 : Blk w9 w8.heap.size #[.slice A8 16 c8, .slice B1 m1 d1] 24 := by rw [← hw9]; exact blk_new w8 _ _ _ rfl
  have V9 : Below w8.heap.size w8 w9 := by rw [← hw9]; (repeat (first | with_reducible exact Below.refl _ _ | with_reducible refine below_drew ?_ | with_reducible refine below_drewN ?_ _ | with_reducible refine below_alloc ?_ (Nat.le_refl _) _ | with_reducible refine Below.setCell ?_ (by first | exact Nat.le_refl _ | (simp only []; omega)) _ | with_reducible assumption))
  have o8 := O8.bs
  have hcat := isCat2 G9 (o8.below V9) (y8.below V9) (cc := 2) (by omega)
  have T9 := below_then T8 V9
  have pc8 := P8.cell
  have s9 := (below_then R1 T9).size
  have kz : k + 1 + 1 < w9.heap.size := (Z8.below V9).lt
  go_wp2_with (go_at_call 38; ((with_reducible refine (hw2 w9 _ hcat (x8.below V9)).mono ?_); rintro e w10 ⟨⟨C1, e1, f1, C2, e2, f2, rfl, O1, O2, hB10⟩⟩); have T10 := below_then T9 hB10; have Z10 := Z1.below T10; have zc10 := Z10.cell)
  obtain ⟨wf, hwf, Sf⟩ := store9 Z10 (.int .u8 Q.tos) (.int .u16 Q.id) (.bool Q.keep) (.int .u8 Q.ttl) (.int .u8 Q.proto) (.int .u32 Q.src) (.int .u32 Q.dst) (.slice C1 e1 f1) (.slice C2 e2 f2)
  rw [hwf]
  have pf := Sf.blk.cell
  have Of := Sf.own O1 (fun a e => by have := O1.ge a e; omega)
  have Df := Sf.own O2 (fun a e => by have := O2.ge a e; omega)
  refine bodyPost_ret (v := .tuple #[(.agg #[.int .u8 (Q).tos, .int .u16 (Q).id, .bool (Q).keep, .int .u8 (Q).ttl, .int .u8 (Q).proto, .int .u32 (Q).src, .int .u32 (Q).dst, .slice C1 e1 f1, .slice C2 e2 f2]), .int .i64 E]) (by simp [results, Try.results16, go_sem, pf]) rfl ⟨⟨C1, e1, f1, C2, e2, f2, rfl, Of.mono s9, Df.mono s9, Sf.bel (below_then R1 T10) (by omega)⟩⟩
theorem bg_any (p : Pkt) (A1 : Option Addr) (n1 c1 : Nat) (A2 : Option Addr) (n2 c2 : Nat) (f : Frm) (hf : f.Ok) (B1 : Option Addr) (m1 d1 : Nat) (w : World) (k1 : Bs w A1 n1 c1 p.opt) (j1 : Bs w B1 m1 d1 f.dat) (hm1 : m1 ≤ 140737488400000) :
    Calls Try.prog 16 #[(.agg #[.int .u8 (p).tos, .int .u16 (p).id, .bool (p).keep, .int .u8 (p).ttl, .int .u8 (p).proto, .int .u32 (p).src, .int .u32 (p).dst, .slice A1 n1 c1, .slice A2 n2 c2]), (.agg #[.int .u16 (f).call, .bool (f).hs, .bool (f).ha, .int .u32 (f).seq, .int .u32 (f).ack, .slice B1 m1 d1])] w (WiPost w (bgP p f) (bgE p f)) := by
  cases hb : gBad f with
  | true =>
    unfold bgP bgE
    rw [hb, if_pos rfl, if_pos rfl]
    exact bg_bad p A1 n1 c1 A2 n2 c2 f B1 m1 d1 w k1 j1 hb
  | false =>
    have hw2 : ∀ W lv, isCat lv (gL f) W → Bs W A1 n1 c1 p.opt → Calls Try.prog 38 #[(.agg #[.int .u8 (p).tos, .int .u16 (p).id, .bool (p).keep, .int .u8 (p).ttl, .int .u8 (p).proto, .int .u32 (p).src, .int .u32 (p).dst, .slice A1 n1 c1, .slice A2 n2 c2]), .int .u8 47, lv] W (WiPost W (bgP p f) (bgE p f)) := fun W lv hc kk => by
      have hn : gN f ≤ 140737488400016 := by
        unfold gN; rw [j1.len]; split <;> split <;> omega
      have hh := with_any p A1 n1 c1 A2 n2 c2 47 lv (gL f) W kk hc (by rw [gL_len]; omega)
      unfold bgP bgE
      rw [hb, if_neg (by decide), if_neg (by decide)]
      rw [gL_len] at hh
      exact hh
    have jl := j1.len
    obtain ⟨call, hs, ha, seq, ack, dat⟩ := f
    simp only at jl
    subst jl
    obtain ⟨c0, s0, a0⟩ := hf
    cases hs <;> cases ha
    · have h1 : (seq != 0) = false ∧ (ack != 0) = false := by
        revert hb; unfold gBad; cases (seq != 0) <;> cases (ack != 0) <;> simp
      exact bg_ok00 p A1 n1 c1 A2 n2 c2 call c0 seq ack s0 a0 h1.1 h1.2 dat B1 _ d1 w k1 j1 _ _ (fun W lv hc kk => hw2 W lv (by simpa [gL, gH] using hc) kk) hm1
    · have h1 : (seq != 0) = false := by
        revert hb; unfold gBad; cases (seq != 0) <;> simp
      exact bg_ok01 p A1 n1 c1 A2 n2 c2 call c0 seq ack s0 a0 h1 dat B1 _ d1 w k1 j1 _ _ (fun W lv hc kk => hw2 W lv (by simpa [gL, gH] using hc) kk) hm1
    · have h1 : (ack != 0) = false := by
        revert hb; unfold gBad; cases (ack != 0) <;> simp
      exact bg_ok10 p A1 n1 c1 A2 n2 c2 call c0 seq ack s0 a0 h1 dat B1 _ d1 w k1 j1 _ _ (fun W lv hc kk => hw2 W lv (by simpa [gL, gH] using hc) kk) hm1
    · exact bg_ok11 p A1 n1 c1 A2 n2 c2 call c0 seq ack s0 a0 dat B1 _ d1 w k1 j1 _ _ (fun W lv hc kk => hw2 W lv (by simpa [gL, gH] using hc) kk) hm1
end Go.Proofs.Ytogbncpchmnbdaa

/- Parts of the proofs of this seat, laid together. -/
import Derived.MapKept
import Derived.Test.YthgoffbfgdgkpaaGa2
namespace Go.Proofs.Ythgoffbfgdgkpaa
open Go.RowKit
set_option linter.unusedVariables false
set_option linter.unusedSimpArgs false
set_option linter.unusedSimpArgs false
set_option maxHeartbeats 4000000
set_option maxRecDepth 100000

theorem bg_ok00 (p : Pkt) (A1 : Option Addr) (n1 c1 : Nat) (A2 : Option Addr) (n2 c2 : Nat) (call : Int) (hca : 0 ≤ call ∧ call ≤ 65535) (seq ack : Int) (hse : 0 ≤ seq ∧ seq ≤ 4294967295) (hak : 0 ≤ ack ∧ ack ≤ 4294967295) (hsq : (seq != 0) = false) (hac : (ack != 0) = false) (dat : List UInt8) (B1 : Option Addr) (m1 d1 : Nat) (w : World) (k1 : Bs w A1 n1 c1 p.opt) (j1 : Bs w B1 m1 d1 dat)
    (Q : Pkt) (E : Int) (hw2 : ∀ W lv, isCat lv ((grB false false ++ two ((m1 : Int) % 65536) ++ two call) ++ dat) W → Bs W A1 n1 c1 p.opt → Calls Try.prog 86 #[(.agg #[.int .u8 (p).tos, .int .u16 (p).id, .bool (p).keep, .int .u8 (p).ttl, .int .u8 (p).proto, .int .u32 (p).src, .int .u32 (p).dst, .slice A1 n1 c1, .slice A2 n2 c2]), .int .u8 47, lv] W (WiPost W Q E)) (hm1 : m1 ≤ 140737488400000) :
    Calls Try.prog 74 #[(.agg #[.int .u8 (p).tos, .int .u16 (p).id, .bool (p).keep, .int .u8 (p).ttl, .int .u8 (p).proto, .int .u32 (p).src, .int .u32 (p).dst, .slice A1 n1 c1, .slice A2 n2 c2]), .agg #[.int .u16 call, .bool false, .bool false, .int .u32 seq, .int .u32 ack, .slice B1 m1 d1]] w (WiPost w Q E) := by
  have b1 := j1.max
  obtain ⟨ca0, ca1⟩ := hca
  obtain ⟨se0, se1⟩ := hse
  obtain ⟨ak0, ak1⟩ := hak
  obtain ⟨z, hz⟩ : ∃ z : Int, (m1 : Int) % 65536 = z := ⟨_, rfl⟩
  have z0 : 0 ≤ z := by omega
  have z1 : z ≤ 65535 := by omega
  have hzw : IntKind.u16.wrap (m1 : Int) = z := by rw [← hz]; simp [IntKind.wrap, IntKind.signed, IntKind.bits]
  rw [hz] at hw2
  have H1 : Hid (put16 ([ub (b0F false), ub (b1F false), ub 136, ub 11] ++ [0, 0, 0, 0]) 4 z = grB false false ++ two z ++ [0, 0]) := by unfold Hid; simp [put16, putK, two, grB]
  have H2 : Hid (put16 (grB false false ++ two z ++ [0, 0]) 6 call = grB false false ++ two z ++ two call) := by unfold Hid; simp [put16, putK, two, grB]
  have hl4 : (cu [0, 0, 0, 0]).toArray = #[.int .u8 0, .int .u8 0, .int .u8 0, .int .u8 0] := rfl
  obtain ⟨k, hk⟩ : ∃ k : Nat, w.heap.size = k := ⟨_, rfl⟩
  obtain ⟨w1, hw1⟩ : ∃ w1, ((w.alloc (.cells #[.int .u8 (p).tos, .int .u16 (p).id, .bool (p).keep, .int .u8 (p).ttl, .int .u8 (p).proto, .int .u32 (p).src, .int .u32 (p).dst, .slice A1 n1 c1, .slice A2 n2 c2] 26)).alloc (.cells #[.int .u16 call, .bool false, .bool false, .int .u32 seq, .int .u32 ack, .slice B1 m1 d1] 52)).alloc (.cells #[.int .u8 0, .int .u16 0, .bool false, .int .u8 0, .int .u8 0, .int .u32 0, .int .u32 0, .slice none 0 0, .slice none 0 0] 26) = w1 := ⟨_, rfl⟩
  have P1 : Blk w1 k #[.int .u8 (p).tos, .int .u16 (p).id, .bool (p).keep, .int .u8 (p).ttl, .int .u8 (p).proto, .int .u32 (p).src, .int .u32 (p).dst, .slice A1 n1 c1, .slice A2 n2 c2] 26 := by rw [← hw1]; exact ((blk_new w _ _ k hk).alloc _).alloc _
  have F1 : Blk w1 (k + 1) #[.int .u16 call, .bool false, .bool false, .int .u32 seq, .int .u32 ack, .slice B1 m1 d1] 52 := by rw [← hw1]; exact (blk_new _ _ _ (k + 1) (by simp [hk])).alloc _
  have Z1 : Blk w1 (k + 1 + 1) #[.int .u8 0, .int .u16 0, .bool false, .int .u8 0, .int .u8 0, .int .u32 0, .int .u32 0, .slice none 0 0, .slice none 0 0] 26 := by rw [← hw1]; exact blk_new _ _ _ (k + 1 + 1) (by simp [hk])
  have R1 : Below w.heap.size w w1 := by rw [← hw1]; (repeat (first | with_reducible exact Below.refl _ _ | with_reducible refine below_drew ?_ | with_reducible refine below_drewN ?_ _ | with_reducible refine below_alloc ?_ (Nat.le_refl _) _ | with_reducible refine Below.setCell ?_ (by first | exact Nat.le_refl _ | (simp only []; omega)) _ | with_reducible assumption))
  have x1 := k1.below R1
  have y1 := j1.below R1
  have mc := F1.cell
  have zl1 := Z1.lt
  go_enter Try.func74, Try.ntmps74
  go_wp2_with (first
    | (go_at_call 82; ((with_reducible refine (begin_any false false _).mono ?_); rintro e w2 ⟨rfl, hB2⟩); (obtain ⟨w3, hw3⟩ : ∃ w3, w2.alloc (.cells #[.int .u8 (b0F false), .int .u8 (b1F false), .int .u8 136, .int .u8 11] 120) = w3 := ⟨_, rfl⟩); have G3 : Blk w3 w2.heap.size #[.int .u8 (b0F false), .int .u8 (b1F false), .int .u8 136, .int .u8 11] 120 := (by rw [← hw3]; exact blk_new w2 _ _ _ rfl); have V3 : Below w2.heap.size w2 w3 := (by rw [← hw3]; (repeat (first | with_reducible exact Below.refl _ _ | with_reducible refine below_drew ?_ | with_reducible refine below_drewN ?_ _ | with_reducible refine below_alloc ?_ (Nat.le_refl _) _ | with_reducible refine Below.setCell ?_ (by first | exact Nat.le_refl _ | (simp only []; omega)) _ | with_reducible assumption))); (obtain ⟨A4, c4, w4, hrun, O4, hB4⟩ := app_first w3 w2.heap.size (b0F false) (b1F false) (b0F_bd _).1 (b0F_bd _).2 (b1F_bd _).1 (b1F_bd _).2 G3))
    | (at_builtin; refine Lib.wpList_append_run _ rfl _ _ _ _ rfl _ _ rfl rfl _ _ hrun ?_))
  have T3 := below_then hB2 V3
  have T4 := below_then T3 hB4
  have F4 := F1.below T4
  have o4 := O4.bs
  have s3 := T3.size
  have s4 := hB4.size
  have hc4 : 8 ≤ c4 := o4.cap
  refine region_txt 9 (by kernel_rfl) (by kernel_rfl) ?_; (iterate 9 (first | (apply ObsK.skip (by rfl)) | (apply ObsK.v (by rfl); (intro wo hT; (repeat (first | (intro v hv; ((obtain ⟨A5, n5, c5, rfl, o5⟩ := hv; have u5 : n5 = 8 := (by rw [← o5.len]; rfl); subst u5; have ob5 := o5.bs))) | (intro _ _ k; try have hcv := cv k))); (have mc := (F4.below hT).cell; have bo := o4.below hT; have hsz : w4.heap.size ≤ wo.heap.size := hT.size); refine Goes.mk ?_; go_simp; first | exact goes_v | exact goes_b (by assumption) | (refine goes_enter ?_; first | (go_at_call 84; ((with_reducible refine (put16_any A4 8 c4 _ 4 z z0 z1 wo bo).mono ?_); rintro e w9 ⟨A9, c9, rfl, ho9, hB9⟩); rw [H1.out] at ho9; exact ret_p (own_isW ho9 hsz) hB9) | (go_at_call 84; ((with_reducible refine (put16_any A5 8 c5 _ 6 call ca0 ca1 wo ob5).mono ?_); rintro e w9 ⟨A9, c9, rfl, ho9, hB9⟩); rw [H2.out] at ho9; exact ret_p (own_isW ho9 hsz) hB9)))) | (apply ObsK.b (by rfl); (intro wo hT; (repeat (first | (intro v hv; ((obtain ⟨A5, n5, c5, rfl, o5⟩ := hv; have u5 : n5 = 8 := (by rw [← o5.len]; rfl); subst u5; have ob5 := o5.bs))) | (intro _ _ k; try have hcv := cv k))); (have mc := (F4.below hT).cell; have bo := o4.below hT; have hsz : w4.heap.size ≤ wo.heap.size := hT.size); refine Goes.mk ?_; go_simp; first | exact goes_v | exact goes_b (by assumption) | (refine goes_enter ?_; first | (go_at_call 84; ((with_reducible refine (put16_any A4 8 c4 _ 4 z z0 z1 wo bo).mono ?_); rintro e w9 ⟨A9, c9, rfl, ho9, hB9⟩); rw [H1.out] at ho9; exact ret_p (own_isW ho9 hsz) hB9) | (go_at_call 84; ((with_reducible refine (put16_any A5 8 c5 _ 6 call ca0 ca1 wo ob5).mono ?_); rintro e w9 ⟨A9, c9, rfl, ho9, hB9⟩); rw [H2.out] at ho9; exact ret_p (own_isW ho9 hsz) hB9)))) | (apply ObsK.p (q := isW w4.heap.size _) (by rfl) st_isW; (intro wo hT; (repeat (first | (intro v hv; ((obtain ⟨A5, n5, c5, rfl, o5⟩ := hv; have u5 : n5 = 8 := (by rw [← o5.len]; rfl); subst u5; have ob5 := o5.bs))) | (intro _ _ k; try have hcv := cv k))); (have mc := (F4.below hT).cell; have bo := o4.below hT; have hsz : w4.heap.size ≤ wo.heap.size := hT.size); refine Goes.mk ?_; go_simp; first | exact goes_v | exact goes_b (by assumption) | (refine goes_enter ?_; first | (go_at_call 84; ((with_reducible refine (put16_any A4 8 c4 _ 4 z z0 z1 wo bo).mono ?_); rintro e w9 ⟨A9, c9, rfl, ho9, hB9⟩); rw [H1.out] at ho9; exact ret_p (own_isW ho9 hsz) hB9) | (go_at_call 84; ((with_reducible refine (put16_any A5 8 c5 _ 6 call ca0 ca1 wo ob5).mono ?_); rintro e w9 ⟨A9, c9, rfl, ho9, hB9⟩); rw [H2.out] at ho9; exact ret_p (own_isW ho9 hsz) hB9)))))); refine ObsK.nil ?_; intro wz hBz; simp only [finOn, List.drop_succ_cons, List.drop_zero, List.drop_nil]
  rintro v6 ⟨A6, n6, c6, rfl, O6⟩ v7 hv7
  clear hv7
  have u6 : n6 = 8 := by rw [← O6.len]; rfl
  subst u6
  go_simp
  have T6 := below_then T4 hBz
  have P6 := P1.below T6
  have F6 := F1.below T6
  have Z6 := Z1.below T6
  have x6 := x1.below T6
  have y6 := y1.below T6
  have mc6 := F6.cell
  have sz6 := hBz.size
  generalize wz = w6 at *
  clear hBz o4 O4 hrun hB4 G3 hw3 V3 T3 F4 hw1 mc T4
  obtain ⟨w9, hw9⟩ : ∃ w9, w6.alloc (.cells #[.slice A6 8 c6, .slice B1 m1 d1] 24) = w9 := ⟨_, rfl⟩
  have G9 : Blk w9 w6.heap.size #[.slice A6 8 c6, .slice B1 m1 d1] 24 := by rw [← hw9]; exact blk_new w6 _ _ _ rfl
  have V9 : Below w6.heap.size w6 w9 := by rw [← hw9]; (repeat (first | with_reducible exact Below.refl _ _ | with_reducible refine below_drew ?_ | with_reducible refine below_drewN ?_ _ | with_reducible refine below_alloc ?_ (Nat.le_refl _) _ | with_reducible refine Below.setCell ?_ (by first | exact Nat.le_refl _ | (simp only []; omega)) _ | with_reducible assumption))
  have o6 := O6.bs
  have hcat := isCat2 G9 (o6.below V9) (y6.below V9) (cc := 2) (by omega)
  have T9 := below_then T6 V9
  have pc6 := P6.cell
  have s9 := (below_then R1 T9).size
  have kz : k + 1 + 1 < w9.heap.size := (Z6.below V9).lt
  go_wp2_with (go_at_call 86; ((with_reducible refine (hw2 w9 _ hcat (x6.below V9)).mono ?_); rintro e w10 ⟨⟨C1, e1, f1, C2, e2, f2, rfl, O1, O2, hB10⟩⟩); have T10 := below_then T9 hB10; have Z10 := Z1.below T10; have zc10 := Z10.cell)
  obtain ⟨wf, hwf, Sf⟩ := store9 Z10 (.int .u8 Q.tos) (.int .u16 Q.id) (.bool Q.keep) (.int .u8 Q.ttl) (.int .u8 Q.proto) (.int .u32 Q.src) (.int .u32 Q.dst) (.slice C1 e1 f1) (.slice C2 e2 f2)
  rw [hwf]
  have pf := Sf.blk.cell
  have Of := Sf.own O1 (fun a e => by have := O1.ge a e; omega)
  have Df := Sf.own O2 (fun a e => by have := O2.ge a e; omega)
  refine bodyPost_ret (v := .tuple #[(.agg #[.int .u8 (Q).tos, .int .u16 (Q).id, .bool (Q).keep, .int .u8 (Q).ttl, .int .u8 (Q).proto, .int .u32 (Q).src, .int .u32 (Q).dst, .slice C1 e1 f1, .slice C2 e2 f2]), .int .i64 E]) (by simp [results, Try.results74, go_sem, pf]) rfl ⟨⟨C1, e1, f1, C2, e2, f2, rfl, Of.mono s9, Df.mono s9, Sf.bel (below_then R1 T10) (by omega)⟩⟩
theorem bg_ok01 (p : Pkt) (A1 : Option Addr) (n1 c1 : Nat) (A2 : Option Addr) (n2 c2 : Nat) (call : Int) (hca : 0 ≤ call ∧ call ≤ 65535) (seq ack : Int) (hse : 0 ≤ seq ∧ seq ≤ 4294967295) (hak : 0 ≤ ack ∧ ack ≤ 4294967295) (hsq : (seq != 0) = false) (dat : List UInt8) (B1 : Option Addr) (m1 d1 : Nat) (w : World) (k1 : Bs w A1 n1 c1 p.opt) (j1 : Bs w B1 m1 d1 dat)
    (Q : Pkt) (E : Int) (hw2 : ∀ W lv, isCat lv (((grB false true ++ two ((m1 : Int) % 65536) ++ two call) ++ four ack) ++ dat) W → Bs W A1 n1 c1 p.opt → Calls Try.prog 86 #[(.agg #[.int .u8 (p).tos, .int .u16 (p).id, .bool (p).keep, .int .u8 (p).ttl, .int .u8 (p).proto, .int .u32 (p).src, .int .u32 (p).dst, .slice A1 n1 c1, .slice A2 n2 c2]), .int .u8 47, lv] W (WiPost W Q E)) (hm1 : m1 ≤ 140737488400000) :
    Calls Try.prog 74 #[(.agg #[.int .u8 (p).tos, .int .u16 (p).id, .bool (p).keep, .int .u8 (p).ttl, .int .u8 (p).proto, .int .u32 (p).src, .int .u32 (p).dst, .slice A1 n1 c1, .slice A2 n2 c2]), .agg #[.int .u16 call, .bool false, .bool true, .int .u32 seq, .int .u32 ack, .slice B1 m1 d1]] w (WiPost w Q E) := by
  have b1 := j1.max
  obtain ⟨ca0, ca1⟩ := hca
  obtain ⟨se0, se1⟩ := hse
  obtain ⟨ak0, ak1⟩ := hak
  obtain ⟨z, hz⟩ : ∃ z : Int, (m1 : Int) % 65536 = z := ⟨_, rfl⟩
  have z0 : 0 ≤ z := by omega
  have z1 : z ≤ 65535 := by omega
  have hzw : IntKind.u16.wrap (m1 : Int) = z := by rw [← hz]; simp [IntKind.wrap, IntKind.signed, IntKind.bits]
  rw [hz] at hw2
  have H1 : Hid (put16 ([ub (b0F false), ub (b1F true), ub 136, ub 11] ++ [0, 0, 0, 0]) 4 z = grB false true ++ two z ++ [0, 0]) := by unfold Hid; simp [put16, putK, two, grB]
  have H2 : Hid (put16 (grB false true ++ two z ++ [0, 0]) 6 call = grB false true ++ two z ++ two call) := by unfold Hid; simp [put16, putK, two, grB]
  have hl4 : (cu [0, 0, 0, 0]).toArray = #[.int .u8 0, .int .u8 0, .int .u8 0, .int .u8 0] := rfl
  obtain ⟨k, hk⟩ : ∃ k : Nat, w.heap.size = k := ⟨_, rfl⟩
  obtain ⟨w1, hw1⟩ : ∃ w1, ((w.alloc (.cells #[.int .u8 (p).tos, .int .u16 (p).id, .bool (p).keep, .int .u8 (p).ttl, .int .u8 (p).proto, .int .u32 (p).src, .int .u32 (p).dst, .slice A1 n1 c1, .slice A2 n2 c2] 26)).alloc (.cells #[.int .u16 call, .bool false, .bool true, .int .u32 seq, .int .u32 ack, .slice B1 m1 d1] 52)).alloc (.cells #[.int .u8 0, .int .u16 0, .bool false, .int .u8 0, .int .u8 0, .int .u32 0, .int .u32 0, .slice none 0 0, .slice none 0 0] 26) = w1 := ⟨_, rfl⟩
  have P1 : Blk w1 k #[.int .u8 (p).tos, .int .u16 (p).id, .bool (p).keep, .int .u8 (p).ttl, .int .u8 (p).proto, .int .u32 (p).src, .int .u32 (p).dst, .slice A1 n1 c1, .slice A2 n2 c2] 26 := by rw [← hw1]; exact ((blk_new w _ _ k hk).alloc _).alloc _
  have F1 : Blk w1 (k + 1) #[.int .u16 call, .bool false, .bool true, .int .u32 seq, .int .u32 ack, .slice B1 m1 d1] 52 := by rw [← hw1]; exact (blk_new _ _ _ (k + 1) (by simp [hk])).alloc _
  have Z1 : Blk w1 (k + 1 + 1) #[.int .u8 0, .int .u16 0, .bool false, .int .u8 0, .int .u8 0, .int .u32 0, .int .u32 0, .slice none 0 0, .slice none 0 0] 26 := by rw [← hw1]; exact blk_new _ _ _ (k + 1 + 1) (by simp [hk])
  have R1 : Below w.heap.size w w1 := by rw [← hw1]; (repeat (first | with_reducible exact Below.refl _ _ | with_reducible refine below_drew ?_ | with_reducible refine below_drewN ?_ _ | with_reducible refine below_alloc ?_ (Nat.le_refl _) _ | with_reducible refine Below.setCell ?_ (by first | exact Nat.le_refl _ | (simp only []; omega)) _ | with_reducible assumption))
  have x1 := k1.below R1
  have y1 := j1.below R1
  have mc := F1.cell
  have zl1 := Z1.lt
  go_enter Try.func74, Try.ntmps74
  go_wp2_with (first
    | (go_at_call 82; ((with_reducible refine (begin_any false true _).mono ?_); rintro e w2 ⟨rfl, hB2⟩); (obtain ⟨w3, hw3⟩ : ∃ w3, w2.alloc (.cells #[.int .u8 (b0F false), .int .u8 (b1F true), .int .u8 136, .int .u8 11] 120) = w3 := ⟨_, rfl⟩); have G3 : Blk w3 w2.heap.size #[.int .u8 (b0F false), .int .u8 (b1F true), .int .u8 136, .int .u8 11] 120 := (by rw [← hw3]; exact blk_new w2 _ _ _ rfl); have V3 : Below w2.heap.size w2 w3 := (by rw [← hw3]; (repeat (first | with_reducible exact Below.refl _ _ | with_reducible refine below_drew ?_ | with_reducible refine below_drewN ?_ _ | with_reducible refine below_alloc ?_ (Nat.le_refl _) _ | with_reducible refine Below.setCell ?_ (by first | exact Nat.le_refl _ | (simp only []; omega)) _ | with_reducible assumption))); (obtain ⟨A4, c4, w4, hrun, O4, hB4⟩ := app_first w3 w2.heap.size (b0F false) (b1F true) (b0F_bd _).1 (b0F_bd _).2 (b1F_bd _).1 (b1F_bd _).2 G3))
    | (at_builtin; refine Lib.wpList_append_run _ rfl _ _ _ _ rfl _ _ rfl rfl _ _ hrun ?_))
  have T3 := below_then hB2 V3
  have T4 := below_then T3 hB4
  have F4 := F1.below T4
  have o4 := O4.bs
  have s3 := T3.size
  have s4 := hB4.size
  have hc4 : 8 ≤ c4 := o4.cap
  refine region_txt 9 (by kernel_rfl) (by kernel_rfl) ?_; (iterate 9 (first | (apply ObsK.skip (by rfl)) | (apply ObsK.v (by rfl); (intro wo hT; (repeat (first | (intro v hv; ((obtain ⟨A5, n5, c5, rfl, o5⟩ := hv; have u5 : n5 = 8 := (by rw [← o5.len]; rfl); subst u5; have ob5 := o5.bs))) | (intro _ _ k; try have hcv := cv k))); (have mc := (F4.below hT).cell; have bo := o4.below hT; have hsz : w4.heap.size ≤ wo.heap.size := hT.size); refine Goes.mk ?_; go_simp; first | exact goes_v | exact goes_b (by assumption) | (refine goes_enter ?_; first | (go_at_call 84; ((with_reducible refine (put16_any A4 8 c4 _ 4 z z0 z1 wo bo).mono ?_); rintro e w9 ⟨A9, c9, rfl, ho9, hB9⟩); rw [H1.out] at ho9; exact ret_p (own_isW ho9 hsz) hB9) | (go_at_call 84; ((with_reducible refine (put16_any A5 8 c5 _ 6 call ca0 ca1 wo ob5).mono ?_); rintro e w9 ⟨A9, c9, rfl, ho9, hB9⟩); rw [H2.out] at ho9; exact ret_p (own_isW ho9 hsz) hB9)))) | (apply ObsK.b (by rfl); (intro wo hT; (repeat (first | (intro v hv; ((obtain ⟨A5, n5, c5, rfl, o5⟩ := hv; have u5 : n5 = 8 := (by rw [← o5.len]; rfl); subst u5; have ob5 := o5.bs))) | (intro _ _ k; try have hcv := cv k))); (have mc := (F4.below hT).cell; have bo := o4.below hT; have hsz : w4.heap.size ≤ wo.heap.size := hT.size); refine Goes.mk ?_; go_simp; first | exact goes_v | exact goes_b (by assumption) | (refine goes_enter ?_; first | (go_at_call 84; ((with_reducible refine (put16_any A4 8 c4 _ 4 z z0 z1 wo bo).mono ?_); rintro e w9 ⟨A9, c9, rfl, ho9, hB9⟩); rw [H1.out] at ho9; exact ret_p (own_isW ho9 hsz) hB9) | (go_at_call 84; ((with_reducible refine (put16_any A5 8 c5 _ 6 call ca0 ca1 wo ob5).mono ?_); rintro e w9 ⟨A9, c9, rfl, ho9, hB9⟩); rw [H2.out] at ho9; exact ret_p (own_isW ho9 hsz) hB9)))) | (apply ObsK.p (q := isW w4.heap.size _) (by rfl) st_isW; (intro wo hT; (repeat (first | (intro v hv; ((obtain ⟨A5, n5, c5, rfl, o5⟩ := hv; have u5 : n5 = 8 := (by rw [← o5.len]; rfl); subst u5; have ob5 := o5.bs))) | (intro _ _ k; try have hcv := cv k))); (have mc := (F4.below hT).cell; have bo := o4.below hT; have hsz : w4.heap.size ≤ wo.heap.size := hT.size); refine Goes.mk ?_; go_simp; first | exact goes_v | exact goes_b (by assumption) | (refine goes_enter ?_; first | (go_at_call 84; ((with_reducible refine (put16_any A4 8 c4 _ 4 z z0 z1 wo bo).mono ?_); rintro e w9 ⟨A9, c9, rfl, ho9, hB9⟩); rw [H1.out] at ho9; exact ret_p (own_isW ho9 hsz) hB9) | (go_at_call 84; ((with_reducible refine (put16_any A5 8 c5 _ 6 call ca0 ca1 wo ob5).mono ?_); rintro e w9 ⟨A9, c9, rfl, ho9, hB9⟩); rw [H2.out] at ho9; exact ret_p (own_isW ho9 hsz) hB9)))))); refine ObsK.nil ?_; intro wz hBz; simp only [finOn, List.drop_succ_cons, List.drop_zero, List.drop_nil]
  rintro v6 ⟨A6, n6, c6, rfl, O6⟩ v7 hv7
  clear hv7
  have u6 : n6 = 8 := by rw [← O6.len]; rfl
  subst u6
  go_simp
  have T6 := below_then T4 hBz
  have P6 := P1.below T6
  have F6 := F1.below T6
  have Z6 := Z1.below T6
  have x6 := x1.below T6
  have y6 := y1.below T6
  have mc6 := F6.cell
  have sz6 := hBz.size
  generalize wz = w6 at *
  clear hBz o4 O4 hrun hB4 G3 hw3 V3 T3 F4 hw1 mc T4
  go_wp2_with fail
  obtain ⟨g7, rfl, gl7, gh7⟩ := O6.ptr (by omega)
  have H7a : Hid (put32 ((grB false true ++ two z ++ two call) ++ [0, 0, 0, 0]) 8 ack = (grB false true ++ two z ++ two call) ++ four ack) := by unfold Hid; simp [put32, putK, two, four, grB]
  have sl7 : w1.heap.size ≤ g7 := by omega
  refine regionX 8 [2] g7 (fun c W => match c with | 0 => Own W w4.heap.size 5 (some ⟨g7, 0, none⟩) 8 c6 (grB false true ++ two z ++ two call) | _ + 1 => True) (by kernel_rfl) (by kernel_rfl) (by kernel_rfl) O6 (fun c W W' hj hb => by cases c with | zero => exact Own.below hj hb | succ n => trivial) ?_; (iterate 8 (first | (apply ObsX.skip (by rfl) (by rfl)) | (apply ObsX.v (by rfl) (by rfl); (intro wo hE; (repeat (first | (intro v hv; ((first | (obtain ⟨Aq, cq, rfl, oq, oq'⟩ := hv) | (obtain ⟨Ap, np, cp, rfl, op⟩ := hv; have up : np = 12 := (by rw [← op.len]; rfl); subst up; have obp := op.bs)))) | (intro _ _ k; try have hcv := cv k))); (have mc := (F6.ext hE (by omega)).cell; have hsz := hE.size; have glx := gh7); refine Goes.mk ?_; first | (exact goes_appX _ _ rfl rfl hj (fun k e => by simp [Value.ownBlock] at e; exact e.symm) rfl oq (by omega) (by omega) (fun _ => trivial)) | (go_simp; first | exact goes_v | exact goes_litN hl4 rfl (by omega) (by omega) | (refine goes_enter ?_; first | (go_at_call 85; ((with_reducible refine (put32_any Ap 12 cp _ 8 ack ak0 ak1 wo obp).mono ?_); rintro e w9 ⟨A9, c9, rfl, ho9, hB9⟩); rw [H7a.out] at ho9; exact ret_p (own_isW ho9 hsz) hB9))))) | (apply ObsX.p (q := isN g7 4 [0, 0, 0, 0]) (by rfl) (by rfl) st_isN sx_isN; (intro wo hE; (repeat (first | (intro v hv; ((first | (obtain ⟨Aq, cq, rfl, oq, oq'⟩ := hv) | (obtain ⟨Ap, np, cp, rfl, op⟩ := hv; have up : np = 12 := (by rw [← op.len]; rfl); subst up; have obp := op.bs)))) | (intro _ _ k; try have hcv := cv k))); (have mc := (F6.ext hE (by omega)).cell; have hsz := hE.size; have glx := gh7); refine Goes.mk ?_; first | (exact goes_appX _ _ rfl rfl hj (fun k e => by simp [Value.ownBlock] at e; exact e.symm) rfl oq (by omega) (by omega) (fun _ => trivial)) | (go_simp; first | exact goes_v | exact goes_litN hl4 rfl (by omega) (by omega) | (refine goes_enter ?_; first | (go_at_call 85; ((with_reducible refine (put32_any Ap 12 cp _ 8 ack ak0 ak1 wo obp).mono ?_); rintro e w9 ⟨A9, c9, rfl, ho9, hB9⟩); rw [H7a.out] at ho9; exact ret_p (own_isW ho9 hsz) hB9))))) | (apply ObsX.p (q := isW w6.heap.size _) (by rfl) (by rfl) st_isW (sx_isW gh7); (intro wo hE; (repeat (first | (intro v hv; ((first | (obtain ⟨Aq, cq, rfl, oq, oq'⟩ := hv) | (obtain ⟨Ap, np, cp, rfl, op⟩ := hv; have up : np = 12 := (by rw [← op.len]; rfl); subst up; have obp := op.bs)))) | (intro _ _ k; try have hcv := cv k))); (have mc := (F6.ext hE (by omega)).cell; have hsz := hE.size; have glx := gh7); refine Goes.mk ?_; first | (exact goes_appX _ _ rfl rfl hj (fun k e => by simp [Value.ownBlock] at e; exact e.symm) rfl oq (by omega) (by omega) (fun _ => trivial)) | (go_simp; first | exact goes_v | exact goes_litN hl4 rfl (by omega) (by omega) | (refine goes_enter ?_; first | (go_at_call 85; ((with_reducible refine (put32_any Ap 12 cp _ 8 ack ak0 ak1 wo obp).mono ?_); rintro e w9 ⟨A9, c9, rfl, ho9, hB9⟩); rw [H7a.out] at ho9; exact ret_p (own_isW ho9 hsz) hB9))))) | (apply ObsX.ev (by rfl) (by rfl); (intro wo hE hj; (repeat (first | (intro v hv; ((first | (obtain ⟨Aq, cq, rfl, oq, oq'⟩ := hv) | (obtain ⟨Ap, np, cp, rfl, op⟩ := hv; have up : np = 12 := (by rw [← op.len]; rfl); subst up; have obp := op.bs)))) | (intro _ _ k; try have hcv := cv k))); (have mc := (F6.ext hE (by omega)).cell; have hsz := hE.size; have glx := gh7); refine GoesX.mk ?_; first | (exact goes_appX _ _ rfl rfl hj (fun k e => by simp [Value.ownBlock] at e; exact e.symm) rfl oq (by omega) (by omega) (fun _ => trivial)) | (go_simp; first | exact goes_v | exact goes_litN hl4 rfl (by omega) (by omega) | (refine goes_enter ?_; first | (go_at_call 85; ((with_reducible refine (put32_any Ap 12 cp _ 8 ack ak0 ak1 wo obp).mono ?_); rintro e w9 ⟨A9, c9, rfl, ho9, hB9⟩); rw [H7a.out] at ho9; exact ret_p (own_isW ho9 hsz) hB9))))) | (apply ObsX.ep (q := isN g7 4 [0, 0, 0, 0]) (by rfl) (by rfl) (by rfl) st_isN; (intro wo hE hj; (repeat (first | (intro v hv; ((first | (obtain ⟨Aq, cq, rfl, oq, oq'⟩ := hv) | (obtain ⟨Ap, np, cp, rfl, op⟩ := hv; have up : np = 12 := (by rw [← op.len]; rfl); subst up; have obp := op.bs)))) | (intro _ _ k; try have hcv := cv k))); (have mc := (F6.ext hE (by omega)).cell; have hsz := hE.size; have glx := gh7); refine GoesX.mk ?_; first | (exact goes_appX _ _ rfl rfl hj (fun k e => by simp [Value.ownBlock] at e; exact e.symm) rfl oq (by omega) (by omega) (fun _ => trivial)) | (go_simp; first | exact goes_v | exact goes_litN hl4 rfl (by omega) (by omega) | (refine goes_enter ?_; first | (go_at_call 85; ((with_reducible refine (put32_any Ap 12 cp _ 8 ack ak0 ak1 wo obp).mono ?_); rintro e w9 ⟨A9, c9, rfl, ho9, hB9⟩); rw [H7a.out] at ho9; exact ret_p (own_isW ho9 hsz) hB9))))) | (apply ObsX.ep (q := isW w6.heap.size _) (by rfl) (by rfl) (by rfl) st_isW; (intro wo hE hj; (repeat (first | (intro v hv; ((first | (obtain ⟨Aq, cq, rfl, oq, oq'⟩ := hv) | (obtain ⟨Ap, np, cp, rfl, op⟩ := hv; have up : np = 12 := (by rw [← op.len]; rfl); subst up; have obp := op.bs)))) | (intro _ _ k; try have hcv := cv k))); (have mc := (F6.ext hE (by omega)).cell; have hsz := hE.size; have glx := gh7); refine GoesX.mk ?_; first | (exact goes_appX _ _ rfl rfl hj (fun k e => by simp [Value.ownBlock] at e; exact e.symm) rfl oq (by omega) (by omega) (fun _ => trivial)) | (go_simp; first | exact goes_v | exact goes_litN hl4 rfl (by omega) (by omega) | (refine goes_enter ?_; first | (go_at_call 85; ((with_reducible refine (put32_any Ap 12 cp _ 8 ack ak0 ak1 wo obp).mono ?_); rintro e w9 ⟨A9, c9, rfl, ho9, hB9⟩); rw [H7a.out] at ho9; exact ret_p (own_isW ho9 hsz) hB9))))) | (apply ObsX.ep (q := isW w4.heap.size _) (by rfl) (by rfl) (by rfl) st_isW; (intro wo hE hj; (repeat (first | (intro v hv; ((first | (obtain ⟨Aq, cq, rfl, oq, oq'⟩ := hv) | (obtain ⟨Ap, np, cp, rfl, op⟩ := hv; have up : np = 12 := (by rw [← op.len]; rfl); subst up; have obp := op.bs)))) | (intro _ _ k; try have hcv := cv k))); (have mc := (F6.ext hE (by omega)).cell; have hsz := hE.size; have glx := gh7); refine GoesX.mk ?_; first | (exact goes_appX _ _ rfl rfl hj (fun k e => by simp [Value.ownBlock] at e; exact e.symm) rfl oq (by omega) (by omega) (fun _ => trivial)) | (go_simp; first | exact goes_v | exact goes_litN hl4 rfl (by omega) (by omega) | (refine goes_enter ?_; first | (go_at_call 85; ((with_reducible refine (put32_any Ap 12 cp _ 8 ack ak0 ak1 wo obp).mono ?_); rintro e w9 ⟨A9, c9, rfl, ho9, hB9⟩); rw [H7a.out] at ho9; exact ret_p (own_isW ho9 hsz) hB9))))))); refine ObsX.nil ?_; intro wz hEz hJz; simp only [finOn, List.drop_succ_cons, List.drop_zero, List.drop_nil]
  rintro v1 ⟨A7, n7, c7, rfl, O7⟩ v2 hv2 v3 hv3
  clear hv2 hv3
  have u7 : n7 = 12 := by rw [← O7.len]; rfl
  subst u7
  go_simp
  have T7 := below_ext T6 hEz sl7 T6.size
  have P7 := P6.ext hEz (by omega)
  have F7 := F6.ext hEz (by omega)
  have Z7 := Z6.ext hEz (by omega)
  have x7 := x1.below T7
  have y7 := y1.below T7
  have mc7 := F7.cell
  have sz7 : w6.heap.size ≤ wz.heap.size := hEz.size
  generalize wz = w7 at *
  clear hEz hJz mc6 O6
  obtain ⟨w9, hw9⟩ : ∃ w9, w7.alloc (.cells #[.slice A7 12 c7, .slice B1 m1 d1] 24) = w9 := ⟨_, rfl⟩
  have G9 : Blk w9 w7.heap.size #[.slice A7 12 c7, .slice B1 m1 d1] 24 := by rw [← hw9]; exact blk_new w7 _ _ _ rfl
  have V9 : Below w7.heap.size w7 w9 := by rw [← hw9]; (repeat (first | with_reducible exact Below.refl _ _ | with_reducible refine below_drew ?_ | with_reducible refine below_drewN ?_ _ | with_reducible refine below_alloc ?_ (Nat.le_refl _) _ | with_reducible refine Below.setCell ?_ (by first | exact Nat.le_refl _ | (simp only []; omega)) _ | with_reducible assumption))
  have o7 := O7.bs
  have hcat := isCat2 G9 (o7.below V9) (y7.below V9) (cc := 2) (by omega)
  have T9 := below_then T7 V9
  have pc7 := P7.cell
  have s9 := (below_then R1 T9).size
  have kz : k + 1 + 1 < w9.heap.size := (Z7.below V9).lt
  go_wp2_with (go_at_call 86; ((with_reducible refine (hw2 w9 _ hcat (x7.below V9)).mono ?_); rintro e w10 ⟨⟨C1, e1, f1, C2, e2, f2, rfl, O1, O2, hB10⟩⟩); have T10 := below_then T9 hB10; have Z10 := Z1.below T10; have zc10 := Z10.cell)
  obtain ⟨wf, hwf, Sf⟩ := store9 Z10 (.int .u8 Q.tos) (.int .u16 Q.id) (.bool Q.keep) (.int .u8 Q.ttl) (.int .u8 Q.proto) (.int .u32 Q.src) (.int .u32 Q.dst) (.slice C1 e1 f1) (.slice C2 e2 f2)
  rw [hwf]
  have pf := Sf.blk.cell
  have Of := Sf.own O1 (fun a e => by have := O1.ge a e; omega)
  have Df := Sf.own O2 (fun a e => by have := O2.ge a e; omega)
  refine bodyPost_ret (v := .tuple #[(.agg #[.int .u8 (Q).tos, .int .u16 (Q).id, .bool (Q).keep, .int .u8 (Q).ttl, .int .u8 (Q).proto, .int .u32 (Q).src, .int .u32 (Q).dst, .slice C1 e1 f1, .slice C2 e2 f2]), .int .i64 E]) (by simp [results, Try.results74, go_sem, pf]) rfl ⟨⟨C1, e1, f1, C2, e2, f2, rfl, Of.mono s9, Df.mono s9, Sf.bel (below_then R1 T10) (by omega)⟩⟩
theorem bg_ok10 (p : Pkt) (A1 : Option Addr) (n1 c1 : Nat) (A2 : Option Addr) (n2 c2 : Nat) (call : Int) (hca : 0 ≤ call ∧ call ≤ 65535) (seq ack : Int) (hse : 0 ≤ seq ∧ seq ≤ 4294967295) (hak : 0 ≤ ack ∧ ack ≤ 4294967295) (hac : (ack != 0) = false) (dat : List UInt8) (B1 : Option Addr) (m1 d1 : Nat) (w : World) (k1 : Bs w A1 n1 c1 p.opt) (j1 : Bs w B1 m1 d1 dat)
    (Q : Pkt) (E : Int) (hw2 : ∀ W lv, isCat lv (((grB true false ++ two ((m1 : Int) % 65536) ++ two call) ++ four seq) ++ dat) W → Bs W A1 n1 c1 p.opt → Calls Try.prog 86 #[(.agg #[.int .u8 (p).tos, .int .u16 (p).id, .bool (p).keep, .int .u8 (p).ttl, .int .u8 (p).proto, .int .u32 (p).src, .int .u32 (p).dst, .slice A1 n1 c1, .slice A2 n2 c2]), .int .u8 47, lv] W (WiPost W Q E)) (hm1 : m1 ≤ 140737488400000) :
    Calls Try.prog 74 #[(.agg #[.int .u8 (p).tos, .int .u16 (p).id, .bool (p).keep, .int .u8 (p).ttl, .int .u8 (p).proto, .int .u32 (p).src, .int .u32 (p).dst, .slice A1 n1 c1, .slice A2 n2 c2]), .agg #[.int .u16 call, .bool true, .bool false, .int .u32 seq, .int .u32 ack, .slice B1 m1 d1]] w (WiPost w Q E) := by
  have b1 := j1.max
  obtain ⟨ca0, ca1⟩ := hca
  obtain ⟨se0, se1⟩ := hse
  obtain ⟨ak0, ak1⟩ := hak
  obtain ⟨z, hz⟩ : ∃ z : Int, (m1 : Int) % 65536 = z := ⟨_, rfl⟩
  have z0 : 0 ≤ z := by omega
  have z1 : z ≤ 65535 := by omega
  have hzw : IntKind.u16.wrap (m1 : Int) = z := by rw [← hz]; simp [IntKind.wrap, IntKind.signed, IntKind.bits]
  rw [hz] at hw2
  have H1 : Hid (put16 ([ub (b0F true), ub (b1F false), ub 136, ub 11] ++ [0, 0, 0, 0]) 4 z = grB true false ++ two z ++ [0, 0]) := by unfold Hid; simp [put16, putK, two, grB]
  have H2 : Hid (put16 (grB true false ++ two z ++ [0, 0]) 6 call = grB true false ++ two z ++ two call) := by unfold Hid; simp [put16, putK, two, grB]
  have hl4 : (cu [0, 0, 0, 0]).toArray = #[.int .u8 0, .int .u8 0, .int .u8 0, .int .u8 0] := rfl
  obtain ⟨k, hk⟩ : ∃ k : Nat, w.heap.size = k := ⟨_, rfl⟩
  obtain ⟨w1, hw1⟩ : ∃ w1, ((w.alloc (.cells #[.int .u8 (p).tos, .int .u16 (p).id, .bool (p).keep, .int .u8 (p).ttl, .int .u8 (p).proto, .int .u32 (p).src, .int .u32 (p).dst, .slice A1 n1 c1, .slice A2 n2 c2] 26)).alloc (.cells #[.int .u16 call, .bool true, .bool false, .int .u32 seq, .int .u32 ack, .slice B1 m1 d1] 52)).alloc (.cells #[.int .u8 0, .int .u16 0, .bool false, .int .u8 0, .int .u8 0, .int .u32 0, .int .u32 0, .slice none 0 0, .slice none 0 0] 26) = w1 := ⟨_, rfl⟩
  have P1 : Blk w1 k #[.int .u8 (p).tos, .int .u16 (p).id, .bool (p).keep, .int .u8 (p).ttl, .int .u8 (p).proto, .int .u32 (p).src, .int .u32 (p).dst, .slice A1 n1 c1, .slice A2 n2 c2] 26 := by rw [← hw1]; exact ((blk_new w _ _ k hk).alloc _).alloc _
  have F1 : Blk w1 (k + 1) #[.int .u16 call, .bool true, .bool false, .int .u32 seq, .int .u32 ack, .slice B1 m1 d1] 52 := by rw [← hw1]; exact (blk_new _ _ _ (k + 1) (by simp [hk])).alloc _
  have Z1 : Blk w1 (k + 1 + 1) #[.int .u8 0, .int .u16 0, .bool false, .int .u8 0, .int .u8 0, .int .u32 0, .int .u32 0, .slice none 0 0, .slice none 0 0] 26 := by rw [← hw1]; exact blk_new _ _ _ (k + 1 + 1) (by simp [hk])
  have R1 : Below w.heap.size w w1 := by rw [← hw1]; (repeat (first | with_reducible exact Below.refl _ _ | with_reducible refine below_drew ?_ | with_reducible refine below_drewN ?_ _ | with_reducible refine below_alloc ?_ (Nat.le_refl _) _ | with_reducible refine Below.setCell ?_ (by first | exact Nat.le_refl _ | (simp only []; omega)) _ | with_reducible assumption))
  have x1 := k1.below R1
  have y1 := j1.below R1
  have mc := F1.cell
  have zl1 := Z1.lt
  go_enter Try.func74, Try.ntmps74
  go_wp2_with (first
    | (go_at_call 82; ((with_reducible refine (begin_any true false _).mono ?_); rintro e w2 ⟨rfl, hB2⟩); (obtain ⟨w3, hw3⟩ : ∃ w3, w2.alloc (.cells #[.int .u8 (b0F true), .int .u8 (b1F false), .int .u8 136, .int .u8 11] 120) = w3 := ⟨_, rfl⟩); have G3 : Blk w3 w2.heap.size #[.int .u8 (b0F true), .int .u8 (b1F false), .int .u8 136, .int .u8 11] 120 := (by rw [← hw3]; exact blk_new w2 _ _ _ rfl); have V3 : Below w2.heap.size w2 w3 := (by rw [← hw3]; (repeat (first | with_reducible exact Below.refl _ _ | with_reducible refine below_drew ?_ | with_reducible refine below_drewN ?_ _ | with_reducible refine below_alloc ?_ (Nat.le_refl _) _ | with_reducible refine Below.setCell ?_ (by first | exact Nat.le_refl _ | (simp only []; omega)) _ | with_reducible assumption))); (obtain ⟨A4, c4, w4, hrun, O4, hB4⟩ := app_first w3 w2.heap.size (b0F true) (b1F false) (b0F_bd _).1 (b0F_bd _).2 (b1F_bd _).1 (b1F_bd _).2 G3))
    | (at_builtin; refine Lib.wpList_append_run _ rfl _ _ _ _ rfl _ _ rfl rfl _ _ hrun ?_))
  have T3 := below_then hB2 V3
  have T4 := below_then T3 hB4
  have F4 := F1.below T4
  have o4 := O4.bs
  have s3 := T3.size
  have s4 := hB4.size
  have hc4 : 8 ≤ c4 := o4.cap
  refine region_txt 9 (by kernel_rfl) (by kernel_rfl) ?_; (iterate 9 (first | (apply ObsK.skip (by rfl)) | (apply ObsK.v (by rfl); (intro wo hT; (repeat (first | (intro v hv; ((obtain ⟨A5, n5, c5, rfl, o5⟩ := hv; have u5 : n5 = 8 := (by rw [← o5.len]; rfl); subst u5; have ob5 := o5.bs))) | (intro _ _ k; try have hcv := cv k))); (have mc := (F4.below hT).cell; have bo := o4.below hT; have hsz : w4.heap.size ≤ wo.heap.size := hT.size); refine Goes.mk ?_; go_simp; first | exact goes_v | exact goes_b (by assumption) | (refine goes_enter ?_; first | (go_at_call 84; ((with_reducible refine (put16_any A4 8 c4 _ 4 z z0 z1 wo bo).mono ?_); rintro e w9 ⟨A9, c9, rfl, ho9, hB9⟩); rw [H1.out] at ho9; exact ret_p (own_isW ho9 hsz) hB9) | (go_at_call 84; ((with_reducible refine (put16_any A5 8 c5 _ 6 call ca0 ca1 wo ob5).mono ?_); rintro e w9 ⟨A9, c9, rfl, ho9, hB9⟩); rw [H2.out] at ho9; exact ret_p (own_isW ho9 hsz) hB9)))) | (apply ObsK.b (by rfl); (intro wo hT; (repeat (first | (intro v hv; ((obtain ⟨A5, n5, c5, rfl, o5⟩ := hv; have u5 : n5 = 8 := (by rw [← o5.len]; rfl); subst u5; have ob5 := o5.bs))) | (intro _ _ k; try have hcv := cv k))); (have mc := (F4.below hT).cell; have bo := o4.below hT; have hsz : w4.heap.size ≤ wo.heap.size := hT.size); refine Goes.mk ?_; go_simp; first | exact goes_v | exact goes_b (by assumption) | (refine goes_enter ?_; first | (go_at_call 84; ((with_reducible refine (put16_any A4 8 c4 _ 4 z z0 z1 wo bo).mono ?_); rintro e w9 ⟨A9, c9, rfl, ho9, hB9⟩); rw [H1.out] at ho9; exact ret_p (own_isW ho9 hsz) hB9) | (go_at_call 84; ((with_reducible refine (put16_any A5 8 c5 _ 6 call ca0 ca1 wo ob5).mono ?_); rintro e w9 ⟨A9, c9, rfl, ho9, hB9⟩); rw [H2.out] at ho9; exact ret_p (own_isW ho9 hsz) hB9)))) | (apply ObsK.p (q := isW w4.heap.size _) (by rfl) st_isW; (intro wo hT; (repeat (first | (intro v hv; ((obtain ⟨A5, n5, c5, rfl, o5⟩ := hv; have u5 : n5 = 8 := (by rw [← o5.len]; rfl); subst u5; have ob5 := o5.bs))) | (intro _ _ k; try have hcv := cv k))); (have mc := (F4.below hT).cell; have bo := o4.below hT; have hsz : w4.heap.size ≤ wo.heap.size := hT.size); refine Goes.mk ?_; go_simp; first | exact goes_v | exact goes_b (by assumption) | (refine goes_enter ?_; first | (go_at_call 84; ((with_reducible refine (put16_any A4 8 c4 _ 4 z z0 z1 wo bo).mono ?_); rintro e w9 ⟨A9, c9, rfl, ho9, hB9⟩); rw [H1.out] at ho9; exact ret_p (own_isW ho9 hsz) hB9) | (go_at_call 84; ((with_reducible refine (put16_any A5 8 c5 _ 6 call ca0 ca1 wo ob5).mono ?_); rintro e w9 ⟨A9, c9, rfl, ho9, hB9⟩); rw [H2.out] at ho9; exact ret_p (own_isW ho9 hsz) hB9)))))); refine ObsK.nil ?_; intro wz hBz; simp only [finOn, List.drop_succ_cons, List.drop_zero, List.drop_nil]
  rintro v6 ⟨A6, n6, c6, rfl, O6⟩ v7 hv7
  clear hv7
  have u6 : n6 = 8 := by rw [← O6.len]; rfl
  subst u6
  go_simp
  have T6 := below_then T4 hBz
  have P6 := P1.below T6
  have F6 := F1.below T6
  have Z6 := Z1.below T6
  have x6 := x1.below T6
  have y6 := y1.below T6
  have mc6 := F6.cell
  have sz6 := hBz.size
  generalize wz = w6 at *
  clear hBz o4 O4 hrun hB4 G3 hw3 V3 T3 F4 hw1 mc T4
  go_wp2_with fail
  obtain ⟨g7, rfl, gl7, gh7⟩ := O6.ptr (by omega)
  have H7a : Hid (put32 ((grB true false ++ two z ++ two call) ++ [0, 0, 0, 0]) 8 seq = (grB true false ++ two z ++ two call) ++ four seq) := by unfold Hid; simp [put32, putK, two, four, grB]
  have sl7 : w1.heap.size ≤ g7 := by omega
  refine regionX 8 [2] g7 (fun c W => match c with | 0 => Own W w4.heap.size 5 (some ⟨g7, 0, none⟩) 8 c6 (grB true false ++ two z ++ two call) | _ + 1 => True) (by kernel_rfl) (by kernel_rfl) (by kernel_rfl) O6 (fun c W W' hj hb => by cases c with | zero => exact Own.below hj hb | succ n => trivial) ?_; (iterate 8 (first | (apply ObsX.skip (by rfl) (by rfl)) | (apply ObsX.v (by rfl) (by rfl); (intro wo hE; (repeat (first | (intro v hv; ((first | (obtain ⟨Aq, cq, rfl, oq, oq'⟩ := hv) | (obtain ⟨Ap, np, cp, rfl, op⟩ := hv; have up : np = 12 := (by rw [← op.len]; rfl); subst up; have obp := op.bs)))) | (intro _ _ k; try have hcv := cv k))); (have mc := (F6.ext hE (by omega)).cell; have hsz := hE.size; have glx := gh7); refine Goes.mk ?_; first | (exact goes_appX _ _ rfl rfl hj (fun k e => by simp [Value.ownBlock] at e; exact e.symm) rfl oq (by omega) (by omega) (fun _ => trivial)) | (go_simp; first | exact goes_v | exact goes_litN hl4 rfl (by omega) (by omega) | (refine goes_enter ?_; first | (go_at_call 85; ((with_reducible refine (put32_any Ap 12 cp _ 8 seq se0 se1 wo obp).mono ?_); rintro e w9 ⟨A9, c9, rfl, ho9, hB9⟩); rw [H7a.out] at ho9; exact ret_p (own_isW ho9 hsz) hB9))))) | (apply ObsX.p (q := isN g7 4 [0, 0, 0, 0]) (by rfl) (by rfl) st_isN sx_isN; (intro wo hE; (repeat (first | (intro v hv; ((first | (obtain ⟨Aq, cq, rfl, oq, oq'⟩ := hv) | (obtain ⟨Ap, np, cp, rfl, op⟩ := hv; have up : np = 12 := (by rw [← op.len]; rfl); subst up; have obp := op.bs)))) | (intro _ _ k; try have hcv := cv k))); (have mc := (F6.ext hE (by omega)).cell; have hsz := hE.size; have glx := gh7); refine Goes.mk ?_; first | (exact goes_appX _ _ rfl rfl hj (fun k e => by simp [Value.ownBlock] at e; exact e.symm) rfl oq (by omega) (by omega) (fun _ => trivial)) | (go_simp; first | exact goes_v | exact goes_litN hl4 rfl (by omega) (by omega) | (refine goes_enter ?_; first | (go_at_call 85; ((with_reducible refine (put32_any Ap 12 cp _ 8 seq se0 se1 wo obp).mono ?_); rintro e w9 ⟨A9, c9, rfl, ho9, hB9⟩); rw [H7a.out] at ho9; exact ret_p (own_isW ho9 hsz) hB9))))) | (apply ObsX.p (q := isW w6.heap.size _) (by rfl) (by rfl) st_isW (sx_isW gh7); (intro wo hE; (repeat (first | (intro v hv; ((first | (obtain ⟨Aq, cq, rfl, oq, oq'⟩ := hv) | (obtain ⟨Ap, np, cp, rfl, op⟩ := hv; have up : np = 12 := (by rw [← op.len]; rfl); subst up; have obp := op.bs)))) | (intro _ _ k; try have hcv := cv k))); (have mc := (F6.ext hE (by omega)).cell; have hsz := hE.size; have glx := gh7); refine Goes.mk ?_; first | (exact goes_appX _ _ rfl rfl hj (fun k e => by simp [Value.ownBlock] at e; exact e.symm) rfl oq (by omega) (by omega) (fun _ => trivial)) | (go_simp; first | exact goes_v | exact goes_litN hl4 rfl (by omega) (by omega) | (refine goes_enter ?_; first | (go_at_call 85; ((with_reducible refine (put32_any Ap 12 cp _ 8 seq se0 se1 wo obp).mono ?_); rintro e w9 ⟨A9, c9, rfl, ho9, hB9⟩); rw [H7a.out] at ho9; exact ret_p (own_isW ho9 hsz) hB9))))) | (apply ObsX.ev (by rfl) (by rfl); (intro wo hE hj; (repeat (first | (intro v hv; ((first | (obtain ⟨Aq, cq, rfl, oq, oq'⟩ := hv) | (obtain ⟨Ap, np, cp, rfl, op⟩ := hv; have up : np = 12 := (by rw [← op.len]; rfl); subst up; have obp := op.bs)))) | (intro _ _ k; try have hcv := cv k))); (have mc := (F6.ext hE (by omega)).cell; have hsz := hE.size; have glx := gh7); refine GoesX.mk ?_; first | (exact goes_appX _ _ rfl rfl hj (fun k e => by simp [Value.ownBlock] at e; exact e.symm) rfl oq (by omega) (by omega) (fun _ => trivial)) | (go_simp; first | exact goes_v | exact goes_litN hl4 rfl (by omega) (by omega) | (refine goes_enter ?_; first | (go_at_call 85; ((with_reducible refine (put32_any Ap 12 cp _ 8 seq se0 se1 wo obp).mono ?_); rintro e w9 ⟨A9, c9, rfl, ho9, hB9⟩); rw [H7a.out] at ho9; exact ret_p (own_isW ho9 hsz) hB9))))) | (apply ObsX.ep (q := isN g7 4 [0, 0, 0, 0]) (by rfl) (by rfl) (by rfl) st_isN; (intro wo hE hj; (repeat (first | (intro v hv; ((first | (obtain ⟨Aq, cq, rfl, oq, oq'⟩ := hv) | (obtain ⟨Ap, np, cp, rfl, op⟩ := hv; have up : np = 12 := (by rw [← op.len]; rfl); subst up; have obp := op.bs)))) | (intro _ _ k; try have hcv := cv k))); (have mc := (F6.ext hE (by omega)).cell; have hsz := hE.size; have glx := gh7); refine GoesX.mk ?_; first | (exact goes_appX _ _ rfl rfl hj (fun k e => by simp [Value.ownBlock] at e; exact e.symm) rfl oq (by omega) (by omega) (fun _ => trivial)) | (go_simp; first | exact goes_v | exact goes_litN hl4 rfl (by omega) (by omega) | (refine goes_enter ?_; first | (go_at_call 85; ((with_reducible refine (put32_any Ap 12 cp _ 8 seq se0 se1 wo obp).mono ?_); rintro e w9 ⟨A9, c9, rfl, ho9, hB9⟩); rw [H7a.out] at ho9; exact ret_p (own_isW ho9 hsz) hB9))))) | (apply ObsX.ep (q := isW w6.heap.size _) (by rfl) (by rfl) (by rfl) st_isW; (intro wo hE hj; (repeat (first | (intro v hv; ((first | (obtain ⟨Aq, cq, rfl, oq, oq'⟩ := hv) | (obtain ⟨Ap, np, cp, rfl, op⟩ := hv; have up : np = 12 := (by rw [← op.len]; rfl); subst up; have obp := op.bs)))) | (intro _ _ k; try have hcv := cv k))); (have mc := (F6.ext hE (by omega)).cell; have hsz := hE.size; have glx := gh7); refine GoesX.mk ?_; first | (exact goes_appX _ _ rfl rfl hj (fun k e => by simp [Value.ownBlock] at e; exact e.symm) rfl oq (by omega) (by omega) (fun _ => trivial)) | (go_simp; first | exact goes_v | exact goes_litN hl4 rfl (by omega) (by omega) | (refine goes_enter ?_; first | (go_at_call 85; ((with_reducible refine (put32_any Ap 12 cp _ 8 seq se0 se1 wo obp).mono ?_); rintro e w9 ⟨A9, c9, rfl, ho9, hB9⟩); rw [H7a.out] at ho9; exact ret_p (own_isW ho9 hsz) hB9))))) | (apply ObsX.ep (q := isW w4.heap.size _) (by rfl) (by rfl) (by rfl) st_isW; (intro wo hE hj; (repeat (first | (intro v hv; ((first | (obtain ⟨Aq, cq, rfl, oq, oq'⟩ := hv) | (obtain ⟨Ap, np, cp, rfl, op⟩ := hv; have up : np = 12 := (by rw [← op.len]; rfl); subst up; have obp := op.bs)))) | (intro _ _ k; try have hcv := cv k))); (have mc := (F6.ext hE (by omega)).cell; have hsz := hE.size; have glx := gh7); refine GoesX.mk ?_; first | (exact goes_appX _ _ rfl rfl hj (fun k e => by simp [Value.ownBlock] at e; exact e.symm) rfl oq (by omega) (by omega) (fun _ => trivial)) | (go_simp; first | exact goes_v | exact goes_litN hl4 rfl (by omega) (by omega) | (refine goes_enter ?_; first | (go_at_call 85; ((with_reducible refine (put32_any Ap 12 cp _ 8 seq se0 se1 wo obp).mono ?_); rintro e w9 ⟨A9, c9, rfl, ho9, hB9⟩); rw [H7a.out] at ho9; exact ret_p (own_isW ho9 hsz) hB9))))))); refine ObsX.nil ?_; intro wz hEz hJz; simp only [finOn, List.drop_succ_cons, List.drop_zero, List.drop_nil]
  rintro v1 ⟨A7, n7, c7, rfl, O7⟩ v2 hv2 v3 hv3
  clear hv2 hv3
  have u7 : n7 = 12 := by rw [← O7.len]; rfl
  subst u7
  go_simp
  have T7 := below_ext T6 hEz sl7 T6.size
  have P7 := P6.ext hEz (by omega)
  have F7 := F6.ext hEz (by omega)
  have Z7 := Z6.ext hEz (by omega)
  have x7 := x1.below T7
  have y7 := y1.below T7
  have mc7 := F7.cell
  have sz7 : w6.heap.size ≤ wz.heap.size := hEz.size
  generalize wz = w7 at *
  clear hEz hJz mc6 O6
  obtain ⟨w9, hw9⟩ : ∃ w9, w7.alloc (.cells #[.slice A7 12 c7, .slice B1 m1 d1] 24) = w9 := ⟨_, rfl⟩
  have G9 : Blk w9 w7.heap.size #[.slice A7 12 c7, .slice B1 m1 d1] 24 := by rw [← hw9]; exact blk_new w7 _ _ _ rfl
  have V9 : Below w7.heap.size w7 w9 := by rw [← hw9]; (repeat (first | with_reducible exact Below.refl _ _ | with_reducible refine below_drew ?_ | with_reducible refine below_drewN ?_ _ | with_reducible refine below_alloc ?_ (Nat.le_refl _) _ | with_reducible refine Below.setCell ?_ (by first | exact Nat.le_refl _ | (simp only []; omega)) _ | with_reducible assumption))
  have o7 := O7.bs
  have hcat := isCat2 G9 (o7.below V9) (y7.below V9) (cc := 2) (by omega)
  have T9 := below_then T7 V9
  have pc7 := P7.cell
  have s9 := (below_then R1 T9).size
  have kz : k + 1 + 1 < w9.heap.size := (Z7.below V9).lt
  go_wp2_with (go_at_call 86; ((with_reducible refine (hw2 w9 _ hcat (x7.below V9)).mono ?_); rintro e w10 ⟨⟨C1, e1, f1, C2, e2, f2, rfl, O1, O2, hB10⟩⟩); have T10 := below_then T9 hB10; have Z10 := Z1.below T10; have zc10 := Z10.cell)
  obtain ⟨wf, hwf, Sf⟩ := store9 Z10 (.int .u8 Q.tos) (.int .u16 Q.id) (.bool Q.keep) (.int .u8 Q.ttl) (.int .u8 Q.proto) (.int .u32 Q.src) (.int .u32 Q.dst) (.slice C1 e1 f1) (.slice C2 e2 f2)
  rw [hwf]
  have pf := Sf.blk.cell
  have Of := Sf.own O1 (fun a e => by have := O1.ge a e; omega)
  have Df := Sf.own O2 (fun a e => by have := O2.ge a e; omega)
  refine bodyPost_ret (v := .tuple #[(.agg #[.int .u8 (Q).tos, .int .u16 (Q).id, .bool (Q).keep, .int .u8 (Q).ttl, .int .u8 (Q).proto, .int .u32 (Q).src, .int .u32 (Q).dst, .slice C1 e1 f1, .slice C2 e2 f2]), .int .i64 E]) (by simp [results, Try.results74, go_sem, pf]) rfl ⟨⟨C1, e1, f1, C2, e2, f2, rfl, Of.mono s9, Df.mono s9, Sf.bel (below_then R1 T10) (by omega)⟩⟩
theorem bg_ok11 (p : Pkt) (A1 : Option Addr) (n1 c1 : Nat) (A2 : Option Addr) (n2 c2 : Nat) (call : Int) (hca : 0 ≤ call ∧ call ≤ 65535) (seq ack : Int) (hse : 0 ≤ seq ∧ seq ≤ 4294967295) (hak : 0 ≤ ack ∧ ack ≤ 4294967295) (dat : List UInt8) (B1 : Option Addr) (m1 d1 : Nat) (w : World) (k1 : Bs w A1 n1 c1 p.opt) (j1 : Bs w B1 m1 d1 dat)
    (Q : Pkt) (E : Int) (hw2 : ∀ W lv, isCat lv ((((grB true true ++ two ((m1 : Int) % 65536) ++ two call) ++ four seq) ++ four ack) ++ dat) W → Bs W A1 n1 c1 p.opt → Calls Try.prog 86 #[(.agg #[.int .u8 (p).tos, .int .u16 (p).id, .bool (p).keep, .int .u8 (p).ttl, .int .u8 (p).proto, .int .u32 (p).src, .int .u32 (p).dst, .slice A1 n1 c1, .slice A2 n2 c2]), .int .u8 47, lv] W (WiPost W Q E)) (hm1 : m1 ≤ 140737488400000) :
    Calls Try.prog 74 #[(.agg #[.int .u8 (p).tos, .int .u16 (p).id, .bool (p).keep, .int .u8 (p).ttl, .int .u8 (p).proto, .int .u32 (p).src, .int .u32 (p).dst, .slice A1 n1 c1, .slice A2 n2 c2]), .agg #[.int .u16 call, .bool true, .bool true, .int .u32 seq, .int .u32 ack, .slice B1 m1 d1]] w (WiPost w Q E) := by
  have b1 := j1.max
  obtain ⟨ca0, ca1⟩ := hca
  obtain ⟨se0, se1⟩ := hse
  obtain ⟨ak0, ak1⟩ := hak
  obtain ⟨z, hz⟩ : ∃ z : Int, (m1 : Int) % 65536 = z := ⟨_, rfl⟩
  have z0 : 0 ≤ z := by omega
  have z1 : z ≤ 65535 := by omega
  have hzw : IntKind.u16.wrap (m1 : Int) = z := by rw [← hz]; simp [IntKind.wrap, IntKind.signed, IntKind.bits]
  rw [hz] at hw2
  have H1 : Hid (put16 ([ub (b0F true), ub (b1F true), ub 136, ub 11] ++ [0, 0, 0, 0]) 4 z = grB true true ++ two z ++ [0, 0]) := by unfold Hid; simp [put16, putK, two, grB]
  have H2 : Hid (put16 (grB true true ++ two z ++ [0, 0]) 6 call = grB true true ++ two z ++ two call) := by unfold Hid; simp [put16, putK, two, grB]
  have hl4 : (cu [0, 0, 0, 0]).toArray = #[.int .u8 0, .int .u8 0, .int .u8 0, .int .u8 0] := rfl
  obtain ⟨k, hk⟩ : ∃ k : Nat, w.heap.size = k := ⟨_, rfl⟩
  obtain ⟨w1, hw1⟩ : ∃ w1, ((w.alloc (.cells #[.int .u8 (p).tos, .int .u16 (p).id, .bool (p).keep, .int .u8 (p).ttl, .int .u8 (p).proto, .int .u32 (p).src, .int .u32 (p).dst, .slice A1 n1 c1, .slice A2 n2 c2] 26)).alloc (.cells #[.int .u16 call, .bool true, .bool true, .int .u32 seq, .int .u32 ack, .slice B1 m1 d1] 52)).alloc (.cells #[.int .u8 0, .int .u16 0, .bool false, .int .u8 0, .int .u8 0, .int .u32 0, .int .u32 0, .slice none 0 0, .slice none 0 0] 26) = w1 := ⟨_, rfl⟩
  have P1 : Blk w1 k #[.int .u8 (p).tos, .int .u16 (p).id, .bool (p).keep, .int .u8 (p).ttl, .int .u8 (p).proto, .int .u32 (p).src, .int .u32 (p).dst, .slice A1 n1 c1, .slice A2 n2 c2] 26 := by rw [← hw1]; exact ((blk_new w _ _ k hk).alloc _).alloc _
  have F1 : Blk w1 (k + 1) #[.int .u16 call, .bool true, .bool true, .int .u32 seq, .int .u32 ack, .slice B1 m1 d1] 52 := by rw [← hw1]; exact (blk_new _ _ _ (k + 1) (by simp [hk])).alloc _
  have Z1 : Blk w1 (k + 1 + 1) #[.int .u8 0, .int .u16 0, .bool false, .int .u8 0, .int .u8 0, .int .u32 0, .int .u32 0, .slice none 0 0, .slice none 0 0] 26 := by rw [← hw1]; exact blk_new _ _ _ (k + 1 + 1) (by simp [hk])
  have R1 : Below w.heap.size w w1 := by rw [← hw1]; (repeat (first | with_reducible exact Below.refl _ _ | with_reducible refine below_drew ?_ | with_reducible refine below_drewN ?_ _ | with_reducible refine below_alloc ?_ (Nat.le_refl _) _ | with_reducible refine Below.setCell ?_ (by first | exact Nat.le_refl _ | (simp only []; omega)) _ | with_reducible assumption))
  have x1 := k1.below R1
  have y1 := j1.below R1
  have mc := F1.cell
  have zl1 := Z1.lt
  go_enter Try.func74, Try.ntmps74
  go_wp2_with (first
    | (go_at_call 82; ((with_reducible refine (begin_any true true _).mono ?_); rintro e w2 ⟨rfl, hB2⟩); (obtain ⟨w3, hw3⟩ : ∃ w3, w2.alloc (.cells #[.int .u8 (b0F true), .int .u8 (b1F true), .int .u8 136, .int .u8 11] 120) = w3 := ⟨_, rfl⟩); have G3 : Blk w3 w2.heap.size #[.int .u8 (b0F true), .int .u8 (b1F true), .int .u8 136, .int .u8 11] 120 := (by rw [← hw3]; exact blk_new w2 _ _ _ rfl); have V3 : Below w2.heap.size w2 w3 := (by rw [← hw3]; (repeat (first | with_reducible exact Below.refl _ _ | with_reducible refine below_drew ?_ | with_reducible refine below_drewN ?_ _ | with_reducible refine below_alloc ?_ (Nat.le_refl _) _ | with_reducible refine Below.setCell ?_ (by first | exact Nat.le_refl _ | (simp only []; omega)) _ | with_reducible assumption))); (obtain ⟨A4, c4, w4, hrun, O4, hB4⟩ := app_first w3 w2.heap.size (b0F true) (b1F true) (b0F_bd _).1 (b0F_bd _).2 (b1F_bd _).1 (b1F_bd _).2 G3))
    | (at_builtin; refine Lib.wpList_append_run _ rfl _ _ _ _ rfl _ _ rfl rfl _ _ hrun ?_))
  have T3 := below_then hB2 V3
  have T4 := below_then T3 hB4
  have F4 := F1.below T4
  have o4 := O4.bs
  have s3 := T3.size
  have s4 := hB4.size
  have hc4 : 8 ≤ c4 := o4.cap
  refine region_txt 9 (by kernel_rfl) (by kernel_rfl) ?_; (iterate 9 (first | (apply ObsK.skip (by rfl)) | (apply ObsK.v (by rfl); (intro wo hT; (repeat (first | (intro v hv; ((obtain ⟨A5, n5, c5, rfl, o5⟩ := hv; have u5 : n5 = 8 := (by rw [← o5.len]; rfl); subst u5; have ob5 := o5.bs))) | (intro _ _ k; try have hcv := cv k))); (have mc := (F4.below hT).cell; have bo := o4.below hT; have hsz : w4.heap.size ≤ wo.heap.size := hT.size); refine Goes.mk ?_; go_simp; first | exact goes_v | exact goes_b (by assumption) | (refine goes_enter ?_; first | (go_at_call 84; ((with_reducible refine (put16_any A4 8 c4 _ 4 z z0 z1 wo bo).mono ?_); rintro e w9 ⟨A9, c9, rfl, ho9, hB9⟩); rw [H1.out] at ho9; exact ret_p (own_isW ho9 hsz) hB9) | (go_at_call 84; ((with_reducible refine (put16_any A5 8 c5 _ 6 call ca0 ca1 wo ob5).mono ?_); rintro e w9 ⟨A9, c9, rfl, ho9, hB9⟩); rw [H2.out] at ho9; exact ret_p (own_isW ho9 hsz) hB9)))) | (apply ObsK.b (by rfl); (intro wo hT; (repeat (first | (intro v hv; ((obtain ⟨A5, n5, c5, rfl, o5⟩ := hv; have u5 : n5 = 8 := (by rw [← o5.len]; rfl); subst u5; have ob5 := o5.bs))) | (intro _ _ k; try have hcv := cv k))); (have mc := (F4.below hT).cell; have bo := o4.below hT; have hsz : w4.heap.size ≤ wo.heap.size := hT.size); refine Goes.mk ?_; go_simp; first | exact goes_v | exact goes_b (by assumption) | (refine goes_enter ?_; first | (go_at_call 84; ((with_reducible refine (put16_any A4 8 c4 _ 4 z z0 z1 wo bo).mono ?_); rintro e w9 ⟨A9, c9, rfl, ho9, hB9⟩); rw [H1.out] at ho9; exact ret_p (own_isW ho9 hsz) hB9) | (go_at_call 84; ((with_reducible refine (put16_any A5 8 c5 _ 6 call ca0 ca1 wo ob5).mono ?_); rintro e w9 ⟨A9, c9, rfl, ho9, hB9⟩); rw [H2.out] at ho9; exact ret_p (own_isW ho9 hsz) hB9)))) | (apply ObsK.p (q := isW w4.heap.size _) (by rfl) st_isW; (intro wo hT; (repeat (first | (intro v hv; ((obtain ⟨A5, n5, c5, rfl, o5⟩ := hv; have u5 : n5 = 8 := (by rw [← o5.len]; rfl); subst u5; have ob5 := o5.bs))) | (intro _ _ k; try have hcv := cv k))); (have mc := (F4.below hT).cell; have bo := o4.below hT; have hsz : w4.heap.size ≤ wo.heap.size := hT.size); refine Goes.mk ?_; go_simp; first | exact goes_v | exact goes_b (by assumption) | (refine goes_enter ?_; first | (go_at_call 84; ((with_reducible refine (put16_any A4 8 c4 _ 4 z z0 z1 wo bo).mono ?_); rintro e w9 ⟨A9, c9, rfl, ho9, hB9⟩); rw [H1.out] at ho9; exact ret_p (own_isW ho9 hsz) hB9) | (go_at_call 84; ((with_reducible refine (put16_any A5 8 c5 _ 6 call ca0 ca1 wo ob5).mono ?_); rintro e w9 ⟨A9, c9, rfl, ho9, hB9⟩); rw [H2.out] at ho9; exact ret_p (own_isW ho9 hsz) hB9)))))); refine ObsK.nil ?_; intro wz hBz; simp only [finOn, List.drop_succ_cons, List.drop_zero, List.drop_nil]
  rintro v6 ⟨A6, n6, c6, rfl, O6⟩ v7 hv7
  clear hv7
  have u6 : n6 = 8 := by rw [← O6.len]; rfl
  subst u6
  go_simp
  have T6 := below_then T4 hBz
  have P6 := P1.below T6
  have F6 := F1.below T6
  have Z6 := Z1.below T6
  have x6 := x1.below T6
  have y6 := y1.below T6
  have mc6 := F6.cell
  have sz6 := hBz.size
  generalize wz = w6 at *
  clear hBz o4 O4 hrun hB4 G3 hw3 V3 T3 F4 hw1 mc T4
  go_wp2_with fail
  obtain ⟨g7, rfl, gl7, gh7⟩ := O6.ptr (by omega)
  have H7a : Hid (put32 ((grB true true ++ two z ++ two call) ++ [0, 0, 0, 0]) 8 seq = (grB true true ++ two z ++ two call) ++ four seq) := by unfold Hid; simp [put32, putK, two, four, grB]
  have sl7 : w1.heap.size ≤ g7 := by omega
  refine regionX 8 [2] g7 (fun c W => match c with | 0 => Own W w4.heap.size 5 (some ⟨g7, 0, none⟩) 8 c6 (grB true true ++ two z ++ two call) | _ + 1 => True) (by kernel_rfl) (by kernel_rfl) (by kernel_rfl) O6 (fun c W W' hj hb => by cases c with | zero => exact Own.below hj hb | succ n => trivial) ?_; (iterate 8 (first | (apply ObsX.skip (by rfl) (by rfl)) | (apply ObsX.v (by rfl) (by rfl); (intro wo hE; (repeat (first | (intro v hv; ((first | (obtain ⟨Aq, cq, rfl, oq, oq'⟩ := hv) | (obtain ⟨Ap, np, cp, rfl, op⟩ := hv; have up : np = 12 := (by rw [← op.len]; rfl); subst up; have obp := op.bs)))) | (intro _ _ k; try have hcv := cv k))); (have mc := (F6.ext hE (by omega)).cell; have hsz := hE.size; have glx := gh7); refine Goes.mk ?_; first | (exact goes_appX _ _ rfl rfl hj (fun k e => by simp [Value.ownBlock] at e; exact e.symm) rfl oq (by omega) (by omega) (fun _ => trivial)) | (go_simp; first | exact goes_v | exact goes_litN hl4 rfl (by omega) (by omega) | (refine goes_enter ?_; first | (go_at_call 85; ((with_reducible refine (put32_any Ap 12 cp _ 8 seq se0 se1 wo obp).mono ?_); rintro e w9 ⟨A9, c9, rfl, ho9, hB9⟩); rw [H7a.out] at ho9; exact ret_p (own_isW ho9 hsz) hB9))))) | (apply ObsX.p (q := isN g7 4 [0, 0, 0, 0]) (by rfl) (by rfl) st_isN sx_isN; (intro wo hE; (repeat (first | (intro v hv; ((first | (obtain ⟨Aq, cq, rfl, oq, oq'⟩ := hv) | (obtain ⟨Ap, np, cp, rfl, op⟩ := hv; have up : np = 12 := (by rw [← op.len]; rfl); subst up; have obp := op.bs)))) | (intro _ _ k; try have hcv := cv k))); (have mc := (F6.ext hE (by omega)).cell; have hsz := hE.size; have glx := gh7); refine Goes.mk ?_; first | (exact goes_appX _ _ rfl rfl hj (fun k e => by simp [Value.ownBlock] at e; exact e.symm) rfl oq (by omega) (by omega) (fun _ => trivial)) | (go_simp; first | exact goes_v | exact goes_litN hl4 rfl (by omega) (by omega) | (refine goes_enter ?_; first | (go_at_call 85; ((with_reducible refine (put32_any Ap 12 cp _ 8 seq se0 se1 wo obp).mono ?_); rintro e w9 ⟨A9, c9, rfl, ho9, hB9⟩); rw [H7a.out] at ho9; exact ret_p (own_isW ho9 hsz) hB9))))) | (apply ObsX.p (q := isW w6.heap.size _) (by rfl) (by rfl) st_isW (sx_isW gh7); (intro wo hE; (repeat (first | (intro v hv; ((first | (obtain ⟨Aq, cq, rfl, oq, oq'⟩ := hv) | (obtain ⟨Ap, np, cp, rfl, op⟩ := hv; have up : np = 12 := (by rw [← op.len]; rfl); subst up; have obp := op.bs)))) | (intro _ _ k; try have hcv := cv k))); (have mc := (F6.ext hE (by omega)).cell; have hsz := hE.size; have glx := gh7); refine Goes.mk ?_; first | (exact goes_appX _ _ rfl rfl hj (fun k e => by simp [Value.ownBlock] at e; exact e.symm) rfl oq (by omega) (by omega) (fun _ => trivial)) | (go_simp; first | exact goes_v | exact goes_litN hl4 rfl (by omega) (by omega) | (refine goes_enter ?_; first | (go_at_call 85; ((with_reducible refine (put32_any Ap 12 cp _ 8 seq se0 se1 wo obp).mono ?_); rintro e w9 ⟨A9, c9, rfl, ho9, hB9⟩); rw [H7a.out] at ho9; exact ret_p (own_isW ho9 hsz) hB9))))) | (apply ObsX.ev (by rfl) (by rfl); (intro wo hE hj; (repeat (first | (intro v hv; ((first | (obtain ⟨Aq, cq, rfl, oq, oq'⟩ := hv) | (obtain ⟨Ap, np, cp, rfl, op⟩ := hv; have up : np = 12 := (by rw [← op.len]; rfl); subst up; have obp := op.bs)))) | (intro _ _ k; try have hcv := cv k))); (have mc := (F6.ext hE (by omega)).cell; have hsz := hE.size; have glx := gh7); refine GoesX.mk ?_; first | (exact goes_appX _ _ rfl rfl hj (fun k e => by simp [Value.ownBlock] at e; exact e.symm) rfl oq (by omega) (by omega) (fun _ => trivial)) | (go_simp; first | exact goes_v | exact goes_litN hl4 rfl (by omega) (by omega) | (refine goes_enter ?_; first | (go_at_call 85; ((with_reducible refine (put32_any Ap 12 cp _ 8 seq se0 se1 wo obp).mono ?_); rintro e w9 ⟨A9, c9, rfl, ho9, hB9⟩); rw [H7a.out] at ho9; exact ret_p (own_isW ho9 hsz) hB9))))) | (apply ObsX.ep (q := isN g7 4 [0, 0, 0, 0]) (by rfl) (by rfl) (by rfl) st_isN; (intro wo hE hj; (repeat (first | (intro v hv; ((first | (obtain ⟨Aq, cq, rfl, oq, oq'⟩ := hv) | (obtain ⟨Ap, np, cp, rfl, op⟩ := hv; have up : np = 12 := (by rw [← op.len]; rfl); subst up; have obp := op.bs)))) | (intro _ _ k; try have hcv := cv k))); (have mc := (F6.ext hE (by omega)).cell; have hsz := hE.size; have glx := gh7); refine GoesX.mk ?_; first | (exact goes_appX _ _ rfl rfl hj (fun k e => by simp [Value.ownBlock] at e; exact e.symm) rfl oq (by omega) (by omega) (fun _ => trivial)) | (go_simp; first | exact goes_v | exact goes_litN hl4 rfl (by omega) (by omega) | (refine goes_enter ?_; first | (go_at_call 85; ((with_reducible refine (put32_any Ap 12 cp _ 8 seq se0 se1 wo obp).mono ?_); rintro e w9 ⟨A9, c9, rfl, ho9, hB9⟩); rw [H7a.out] at ho9; exact ret_p (own_isW ho9 hsz) hB9))))) | (apply ObsX.ep (q := isW w6.heap.size _) (by rfl) (by rfl) (by rfl) st_isW; (intro wo hE hj; (repeat (first | (intro v hv; ((first | (obtain ⟨Aq, cq, rfl, oq, oq'⟩ := hv) | (obtain ⟨Ap, np, cp, rfl, op⟩ := hv; have up : np = 12 := (by rw [← op.len]; rfl); subst up; have obp := op.bs)))) | (intro _ _ k; try have hcv := cv k))); (have mc := (F6.ext hE (by omega)).cell; have hsz := hE.size; have glx := gh7); refine GoesX.mk ?_; first | (exact goes_appX _ _ rfl rfl hj (fun k e => by simp [Value.ownBlock] at e; exact e.symm) rfl oq (by omega) (by omega) (fun _ => trivial)) | (go_simp; first | exact goes_v | exact goes_litN hl4 rfl (by omega) (by omega) | (refine goes_enter ?_; first | (go_at_call 85; ((with_reducible refine (put32_any Ap 12 cp _ 8 seq se0 se1 wo obp).mono ?_); rintro e w9 ⟨A9, c9, rfl, ho9, hB9⟩); rw [H7a.out] at ho9; exact ret_p (own_isW ho9 hsz) hB9))))) | (apply ObsX.ep (q := isW w4.heap.size _) (by rfl) (by rfl) (by rfl) st_isW; (intro wo hE hj; (repeat (first | (intro v hv; ((first | (obtain ⟨Aq, cq, rfl, oq, oq'⟩ := hv) | (obtain ⟨Ap, np, cp, rfl, op⟩ := hv; have up : np = 12 := (by rw [← op.len]; rfl); subst up; have obp := op.bs)))) | (intro _ _ k; try have hcv := cv k))); (have mc := (F6.ext hE (by omega)).cell; have hsz := hE.size; have glx := gh7); refine GoesX.mk ?_; first | (exact goes_appX _ _ rfl rfl hj (fun k e => by simp [Value.ownBlock] at e; exact e.symm) rfl oq (by omega) (by omega) (fun _ => trivial)) | (go_simp; first | exact goes_v | exact goes_litN hl4 rfl (by omega) (by omega) | (refine goes_enter ?_; first | (go_at_call 85; ((with_reducible refine (put32_any Ap 12 cp _ 8 seq se0 se1 wo obp).mono ?_); rintro e w9 ⟨A9, c9, rfl, ho9, hB9⟩); rw [H7a.out] at ho9; exact ret_p (own_isW ho9 hsz) hB9))))))); refine ObsX.nil ?_; intro wz hEz hJz; simp only [finOn, List.drop_succ_cons, List.drop_zero, List.drop_nil]
  rintro v1 ⟨A7, n7, c7, rfl, O7⟩ v2 hv2 v3 hv3
  clear hv2 hv3
  have u7 : n7 = 12 := by rw [← O7.len]; rfl
  subst u7
  go_simp
  have T7 := below_ext T6 hEz sl7 T6.size
  have P7 := P6.ext hEz (by omega)
  have F7 := F6.ext hEz (by omega)
  have Z7 := Z6.ext hEz (by omega)
  have x7 := x1.below T7
  have y7 := y1.below T7
  have mc7 := F7.cell
  have sz7 : w6.heap.size ≤ wz.heap.size := hEz.size
  generalize wz = w7 at *
  clear hEz hJz mc6 O6
  go_wp2_with fail
  obtain ⟨g8, rfl, gl8, gh8⟩ := O7.ptr (by omega)
  have H8a : Hid (put32 (((grB true true ++ two z ++ two call) ++ four seq) ++ [0, 0, 0, 0]) 12 ack = ((grB true true ++ two z ++ two call) ++ four seq) ++ four ack) := by unfold Hid; simp [put32, putK, two, four, grB]
  have sl8 : w1.heap.size ≤ g8 := by omega
  refine regionX 8 [2] g8 (fun c W => match c with | 0 => Own W w6.heap.size 5 (some ⟨g8, 0, none⟩) 12 c7 ((grB true true ++ two z ++ two call) ++ four seq) | _ + 1 => True) (by kernel_rfl) (by kernel_rfl) (by kernel_rfl) O7 (fun c W W' hj hb => by cases c with | zero => exact Own.below hj hb | succ n => trivial) ?_; (iterate 8 (first | (apply ObsX.skip (by rfl) (by rfl)) | (apply ObsX.v (by rfl) (by rfl); (intro wo hE; (repeat (first | (intro v hv; ((first | (obtain ⟨Aq, cq, rfl, oq, oq'⟩ := hv) | (obtain ⟨Ap, np, cp, rfl, op⟩ := hv; have up : np = 16 := (by rw [← op.len]; rfl); subst up; have obp := op.bs)))) | (intro _ _ k; try have hcv := cv k))); (have mc := (F7.ext hE (by omega)).cell; have hsz := hE.size; have glx := gh8); refine Goes.mk ?_; first | (exact goes_appX _ _ rfl rfl hj (fun k e => by simp [Value.ownBlock] at e; exact e.symm) rfl oq (by omega) (by omega) (fun _ => trivial)) | (go_simp; first | exact goes_v | exact goes_litN hl4 rfl (by omega) (by omega) | (refine goes_enter ?_; first | (go_at_call 85; ((with_reducible refine (put32_any Ap 16 cp _ 12 ack ak0 ak1 wo obp).mono ?_); rintro e w9 ⟨A9, c9, rfl, ho9, hB9⟩); rw [H8a.out] at ho9; exact ret_p (own_isW ho9 hsz) hB9))))) | (apply ObsX.p (q := isN g8 4 [0, 0, 0, 0]) (by rfl) (by rfl) st_isN sx_isN; (intro wo hE; (repeat (first | (intro v hv; ((first | (obtain ⟨Aq, cq, rfl, oq, oq'⟩ := hv) | (obtain ⟨Ap, np, cp, rfl, op⟩ := hv; have up : np = 16 := (by rw [← op.len]; rfl); subst up; have obp := op.bs)))) | (intro _ _ k; try have hcv := cv k))); (have mc := (F7.ext hE (by omega)).cell; have hsz := hE.size; have glx := gh8); refine Goes.mk ?_; first | (exact goes_appX _ _ rfl rfl hj (fun k e => by simp [Value.ownBlock] at e; exact e.symm) rfl oq (by omega) (by omega) (fun _ => trivial)) | (go_simp; first | exact goes_v | exact goes_litN hl4 rfl (by omega) (by omega) | (refine goes_enter ?_; first | (go_at_call 85; ((with_reducible refine (put32_any Ap 16 cp _ 12 ack ak0 ak1 wo obp).mono ?_); rintro e w9 ⟨A9, c9, rfl, ho9, hB9⟩); rw [H8a.out] at ho9; exact ret_p (own_isW ho9 hsz) hB9))))) | (apply ObsX.p (q := isW w7.heap.size _) (by rfl) (by rfl) st_isW (sx_isW gh8); (intro wo hE; (repeat (first | (intro v hv; ((first | (obtain ⟨Aq, cq, rfl, oq, oq'⟩ := hv) | (obtain ⟨Ap, np, cp, rfl, op⟩ := hv; have up : np = 16 := (by rw [← op.len]; rfl); subst up; have obp := op.bs)))) | (intro _ _ k; try have hcv := cv k))); (have mc := (F7.ext hE (by omega)).cell; have hsz := hE.size; have glx := gh8); refine Goes.mk ?_; first | (exact goes_appX _ _ rfl rfl hj (fun k e => by simp [Value.ownBlock] at e; exact e.symm) rfl oq (by omega) (by omega) (fun _ => trivial)) | (go_simp; first | exact goes_v | exact goes_litN hl4 rfl (by omega) (by omega) | (refine goes_enter ?_; first | (go_at_call 85; ((with_reducible refine (put32_any Ap 16 cp _ 12 ack ak0 ak1 wo obp).mono ?_); rintro e w9 ⟨A9, c9, rfl, ho9, hB9⟩); rw [H8a.out] at ho9; exact ret_p (own_isW ho9 hsz) hB9))))) | (apply ObsX.ev (by rfl) (by rfl); (intro wo hE hj; (repeat (first | (intro v hv; ((first | (obtain ⟨Aq, cq, rfl, oq, oq'⟩ := hv) | (obtain ⟨Ap, np, cp, rfl, op⟩ := hv; have up : np = 16 := (by rw [← op.len]; rfl); subst up; have obp := op.bs)))) | (intro _ _ k; try have hcv := cv k))); (have mc := (F7.ext hE (by omega)).cell; have hsz := hE.size; have glx := gh8); refine GoesX.mk ?_; first | (exact goes_appX _ _ rfl rfl hj (fun k e => by simp [Value.ownBlock] at e; exact e.symm) rfl oq (by omega) (by omega) (fun _ => trivial)) | (go_simp; first | exact goes_v | exact goes_litN hl4 rfl (by omega) (by omega) | (refine goes_enter ?_; first | (go_at_call 85; ((with_reducible refine (put32_any Ap 16 cp _ 12 ack ak0 ak1 wo obp).mono ?_); rintro e w9 ⟨A9, c9, rfl, ho9, hB9⟩); rw [H8a.out] at ho9; exact ret_p (own_isW ho9 hsz) hB9))))) | (apply ObsX.ep (q := isN g8 4 [0, 0, 0, 0]) (by rfl) (by rfl) (by rfl) st_isN; (intro wo hE hj; (repeat (first | (intro v hv; ((first | (obtain ⟨Aq, cq, rfl, oq, oq'⟩ := hv) | (obtain ⟨Ap, np, cp, rfl, op⟩ := hv; have up : np = 16 := (by rw [← op.len]; rfl); subst up; have obp := op.bs)))) | (intro _ _ k; try have hcv := cv k))); (have mc := (F7.ext hE (by omega)).cell; have hsz := hE.size; have glx := gh8); refine GoesX.mk ?_; first | (exact goes_appX _ _ rfl rfl hj (fun k e => by simp [Value.ownBlock] at e; exact e.symm) rfl oq (by omega) (by omega) (fun _ => trivial)) | (go_simp; first | exact goes_v | exact goes_litN hl4 rfl (by omega) (by omega) | (refine goes_enter ?_; first | (go_at_call 85; ((with_reducible refine (put32_any Ap 16 cp _ 12 ack ak0 ak1 wo obp).mono ?_); rintro e w9 ⟨A9, c9, rfl, ho9, hB9⟩); rw [H8a.out] at ho9; exact ret_p (own_isW ho9 hsz) hB9))))) | (apply ObsX.ep (q := isW w7.heap.size _) (by rfl) (by rfl) (by rfl) st_isW; (intro wo hE hj; (repeat (first | (intro v hv; ((first | (obtain ⟨Aq, cq, rfl, oq, oq'⟩ := hv) | (obtain ⟨Ap, np, cp, rfl, op⟩ := hv; have up : np = 16 := (by rw [← op.len]; rfl); subst up; have obp := op.bs)))) | (intro _ _ k; try have hcv := cv k))); (have mc := (F7.ext hE (by omega)).cell; have hsz := hE.size; have glx := gh8); refine GoesX.mk ?_; first | (exact goes_appX _ _ rfl rfl hj (fun k e => by simp [Value.ownBlock] at e; exact e.symm) rfl oq (by omega) (by omega) (fun _ => trivial)) | (go_simp; first | exact goes_v | exact goes_litN hl4 rfl (by omega) (by omega) | (refine goes_enter ?_; first | (go_at_call 85; ((with_reducible refine (put32_any Ap 16 cp _ 12 ack ak0 ak1 wo obp).mono ?_); rintro e w9 ⟨A9, c9, rfl, ho9, hB9⟩); rw [H8a.out] at ho9; exact ret_p (own_isW ho9 hsz) hB9))))) | (apply ObsX.ep (q := isW w6.heap.size _) (by rfl) (by rfl) (by rfl) st_isW; (intro wo hE hj; (repeat (first | (intro v hv; ((first | (obtain ⟨Aq, cq, rfl, oq, oq'⟩ := hv) | (obtain ⟨Ap, np, cp, rfl, op⟩ := hv; have up : np = 16 := (by rw [← op.len]; rfl); subst up; have obp := op.bs)))) | (intro _ _ k; try have hcv := cv k))); (have mc := (F7.ext hE (by omega)).cell; have hsz := hE.size; have glx := gh8); refine GoesX.mk ?_; first | (exact goes_appX _ _ rfl rfl hj (fun k e => by simp [Value.ownBlock] at e; exact e.symm) rfl oq (by omega) (by omega) (fun _ => trivial)) | (go_simp; first | exact goes_v | exact goes_litN hl4 rfl (by omega) (by omega) | (refine goes_enter ?_; first | (go_at_call 85; ((with_reducible refine (put32_any Ap 16 cp _ 12 ack ak0 ak1 wo obp).mono ?_); rintro e w9 ⟨A9, c9, rfl, ho9, hB9⟩); rw [H8a.out] at ho9; exact ret_p (own_isW ho9 hsz) hB9))))))); refine ObsX.nil ?_; intro wz hEz hJz; simp only [finOn, List.drop_succ_cons, List.drop_zero, List.drop_nil]
  rintro v1 ⟨A8, n8, c8, rfl, O8⟩ v2 hv2 v3 hv3
  clear hv2 hv3
  have u8 : n8 = 16 := by rw [← O8.len]; rfl
  subst u8
  go_simp
  have T8 := below_ext T7 hEz sl8 T7.size
  have P8 := P7.ext hEz (by omega)
  have F8 := F7.ext hEz (by omega)
  have Z8 := Z7.ext hEz (by omega)
  have x8 := x1.below T8
  have y8 := y1.below T8
  have mc8 := F8.cell
  have sz8 : w7.heap.size ≤ wz.heap.size := hEz.size
  generalize wz = w8 at *
  clear hEz hJz mc7 O7
  obtain ⟨w9, hw9⟩ : ∃ w9, w8.alloc (.cells #[.slice A8 16 c8, .slice B1 m1 d1] 24) = w9 := ⟨_, rfl⟩
  have G9 : Blk w9 w8.heap.size #[.slice A8 16 c8, .slice B1 m1 d1] 24 := by rw [← hw9]; exact blk_new w8 _ _ _ rfl
  have V9 : Below w8.heap.size w8 w9 := by rw [← hw9]; (repeat (first | with_reducible exact Below.refl _ _ | with_reducible refine below_drew ?_ | with_reducible refine below_drewN ?_ _ | with_reducible refine below_alloc ?_ (Nat.le_refl _) _ | with_reducible refine Below.setCell ?_ (by first | exact Nat.le_refl _ | (simp only []; omega)) _ | with_reducible assumption))
  have o8 := O8.bs
  have hcat := isCat2 G9 (o8.below V9) (y8.below V9) (cc := 2) (by omega)
  have T9 := below_then T8 V9
  have pc8 := P8.cell
  have s9 := (below_then R1 T9).size
  have kz : k + 1 + 1 < w9.heap.size := (Z8.below V9).lt
  go_wp2_with (go_at_call 86; ((with_reducible refine (hw2 w9 _ hcat (x8.below V9)).mono ?_); rintro e w10 ⟨⟨C1, e1, f1, C2, e2, f2, rfl, O1, O2, hB10⟩⟩); have T10 := below_then T9 hB10; have Z10 := Z1.below T10; have zc10 := Z10.cell)
  obtain ⟨wf, hwf, Sf⟩ := store9 Z10 (.int .u8 Q.tos) (.int .u16 Q.id) (.bool Q.keep) (.int .u8 Q.ttl) (.int .u8 Q.proto) (.int .u32 Q.src) (.int .u32 Q.dst) (.slice C1 e1 f1) (.slice C2 e2 f2)
  rw [hwf]
  have pf := Sf.blk.cell
  have Of := Sf.own O1 (fun a e => by have := O1.ge a e; omega)
  have Df := Sf.own O2 (fun a e => by have := O2.ge a e; omega)
  refine bodyPost_ret (v := .tuple #[(.agg #[.int .u8 (Q).tos, .int .u16 (Q).id, .bool (Q).keep, .int .u8 (Q).ttl, .int .u8 (Q).proto, .int .u32 (Q).src, .int .u32 (Q).dst, .slice C1 e1 f1, .slice C2 e2 f2]), .int .i64 E]) (by simp [results, Try.results74, go_sem, pf]) rfl ⟨⟨C1, e1, f1, C2, e2, f2, rfl, Of.mono s9, Df.mono s9, Sf.bel (below_then R1 T10) (by omega)⟩⟩
theorem bg_any (p : Pkt) (A1 : Option Addr) (n1 c1 : Nat) (A2 : Option Addr) (n2 c2 : Nat) (f : Frm) (hf : f.Ok) (B1 : Option Addr) (m1 d1 : Nat) (w : World) (k1 : Bs w A1 n1 c1 p.opt) (j1 : Bs w B1 m1 d1 f.dat) (hm1 : m1 ≤ 140737488400000) :
    Calls Try.prog 74 #[(.agg #[.int .u8 (p).tos, .int .u16 (p).id, .bool (p).keep, .int .u8 (p).ttl, .int .u8 (p).proto, .int .u32 (p).src, .int .u32 (p).dst, .slice A1 n1 c1, .slice A2 n2 c2]), (.agg #[.int .u16 (f).call, .bool (f).hs, .bool (f).ha, .int .u32 (f).seq, .int .u32 (f).ack, .slice B1 m1 d1])] w (WiPost w (bgP p f) (bgE p f)) := by
  cases hb : gBad f with
  | true =>
    unfold bgP bgE
    rw [hb, if_pos rfl, if_pos rfl]
    exact bg_bad p A1 n1 c1 A2 n2 c2 f B1 m1 d1 w k1 j1 hb
  | false =>
    have hw2 : ∀ W lv, isCat lv (gL f) W → Bs W A1 n1 c1 p.opt → Calls Try.prog 86 #[(.agg #[.int .u8 (p).tos, .int .u16 (p).id, .bool (p).keep, .int .u8 (p).ttl, .int .u8 (p).proto, .int .u32 (p).src, .int .u32 (p).dst, .slice A1 n1 c1, .slice A2 n2 c2]), .int .u8 47, lv] W (WiPost W (bgP p f) (bgE p f)) := fun W lv hc kk => by
      have hn : gN f ≤ 140737488400016 := by
        unfold gN; rw [j1.len]; split <;> split <;> omega
      have hh := with_any p A1 n1 c1 A2 n2 c2 47 lv (gL f) W kk hc (by rw [gL_len]; omega)
      unfold bgP bgE
      rw [hb, if_neg (by decide), if_neg (by decide)]
      rw [gL_len] at hh
      exact hh
    have jl := j1.len
    obtain ⟨call, hs, ha, seq, ack, dat⟩ := f
    simp only at jl
    subst jl
    obtain ⟨c0, s0, a0⟩ := hf
    cases hs <;> cases ha
    · have h1 : (seq != 0) = false ∧ (ack != 0) = false := by
        revert hb; unfold gBad; cases (seq != 0) <;> cases (ack != 0) <;> simp
      exact bg_ok00 p A1 n1 c1 A2 n2 c2 call c0 seq ack s0 a0 h1.1 h1.2 dat B1 _ d1 w k1 j1 _ _ (fun W lv hc kk => hw2 W lv (by simpa [gL, gH] using hc) kk) hm1
    · have h1 : (seq != 0) = false := by
        revert hb; unfold gBad; cases (seq != 0) <;> simp
      exact bg_ok01 p A1 n1 c1 A2 n2 c2 call c0 seq ack s0 a0 h1 dat B1 _ d1 w k1 j1 _ _ (fun W lv hc kk => hw2 W lv (by simpa [gL, gH] using hc) kk) hm1
    · have h1 : (ack != 0) = false := by
        revert hb; unfold gBad; cases (ack != 0) <;> simp
      exact bg_ok10 p A1 n1 c1 A2 n2 c2 call c0 seq ack s0 a0 h1 dat B1 _ d1 w k1 j1 _ _ (fun W lv hc kk => hw2 W lv (by simpa [gL, gH] using hc) kk) hm1
    · exact bg_ok11 p A1 n1 c1 A2 n2 c2 call c0 seq ack s0 a0 dat B1 _ d1 w k1 j1 _ _ (fun W lv hc kk => hw2 W lv (by simpa [gL, gH] using hc) kk) hm1
end Go.Proofs.Ythgoffbfgdgkpaa

namespace Go.Proofs.Ythgoffbfgdgkpaa
open Go.RowKit
set_option linter.unusedVariables false
set_option linter.unusedSimpArgs false
set_option maxHeartbeats 4000000
set_option maxRecDepth 100000

theorem next_any (has : Bool) (gb ga : Nat) (A : Option Addr) (n c : Nat) (l : List UInt8) (v : Int) (v0 : 0 ≤ v) (v1 : v ≤ 100) (w : World) (K : Blk w gb #[.slice A n c] 24) (L : Blk w ga #[.int .i64 v] 3) (hne : gb ≠ ga) (hb : Bs w A n c l) :
    Calls Try.prog 83 #[.bool has, .pointer (some ⟨gb, 0, none⟩), .pointer (some ⟨ga, 0, none⟩)] w fun e w' => e = .returned (.int .u32 (if has then get32 l v else 0)) ∧ w.grownBy w' (some ga) ∧ Blk w' ga #[.int .i64 (if has then v + 4 else v)] 3 := by
  have kc := K.cell
  have lc := L.cell
  cases has with
  | false =>
    go_enter Try.func83, Try.ntmps83
    go_wp2_with fail
    go_ret
    exact ⟨rfl, ext_refl _ _, L⟩
  | true =>
    go_enter Try.func83, Try.ntmps83
    go_wp2_with (go_at_call 63; ((with_reducible refine (get32_any A n c l v _ hb).mono ?_); rintro e w1 ⟨rfl, hD⟩); have L1 := L.below hD.bel; have lc1 := L1.cell)
    go_ret
    refine ⟨rfl, ext_trans (ext_below hD.bel) (grownBy_setCell _ ⟨ga, 0, none⟩ _), ?_⟩
    have := L1.set_ 0 (.int .i64 (v + 4))
    simpa using this
def sB (l : List UInt8) : Bool := bt l 0 == 48
def aB (l : List UInt8) : Bool := bt l 1 == 129
def begB (l : List UInt8) : Bool := (bt l 0 == 32 || bt l 0 == 48) && (bt l 1 == 1 || bt l 1 == 129) && bt l 2 == 136 && bt l 3 == 11
def hdG (l : List UInt8) : Nat := 8 + (if sB l then 4 else 0) + (if aB l then 4 else 0)
def geE (p : Pkt) : Int := if p.proto ≠ 47 then 12 else if (p.dat.length : Int) < 8 then 3 else if begB p.dat = false then 4 else if (p.dat.length : Int) < hdG p.dat + get16 p.dat 4 then 3 else if hdG p.dat + get16 p.dat 4 < (p.dat.length : Int) then 4 else 0
def rdF (l : List UInt8) : Frm := ⟨get16 l 6, sB l, aB l, if sB l then get32 l 8 else 0, if aB l then get32 l (if sB l then 12 else 8) else 0, l.drop (hdG l)⟩
def geF (p : Pkt) : Frm := if geE p = 0 then rdF p.dat else zF
structure FrPost (w : World) (F : Frm) (E : Int) (e : Ending) (w' : World) : Prop where
  out : ∃ B m d, e = .returned (.tuple #[(.agg #[.int .u16 (F).call, .bool (F).hs, .bool (F).ha, .int .u32 (F).seq, .int .u32 (F).ack, .slice B m d]), .int .i64 E]) ∧ Own w' w.heap.size 5 B m d F.dat ∧ Below w.heap.size w w'
theorem frPost_no {w w' : World} {E : Int} (hB : Below w.heap.size w w') : FrPost w zF E (.returned (.tuple #[.agg #[.int .u16 0, .bool false, .bool false, .int .u32 0, .int .u32 0, .slice none 0 0], .int .i64 E])) w' :=
  ⟨none, 0, 0, rfl, own_nil _ _ _, hB⟩
def sW (l : List UInt8) : Bool := bits .and .u8 (bt l 0) 16 != 0
def aW (l : List UInt8) : Bool := bits .and .u8 (bt l 1) 128 != 0
def eqW (l : List UInt8) : Bool := bt l 0 == b0F (sW l) && bt l 1 == b1F (aW l) && bt l 2 == 136 && bt l 3 == 11
theorem s_tab : ∀ a : Fin 256, ((a.val : Int) == b0F (bits .and .u8 (a.val : Int) 16 != 0)) = ((a.val : Int) == 32 || (a.val : Int) == 48) ∧ (((a.val : Int) == 32 || (a.val : Int) == 48) = true → (bits .and .u8 (a.val : Int) 16 != 0) = ((a.val : Int) == 48)) := by decide +kernel
theorem a_tab : ∀ a : Fin 256, ((a.val : Int) == b1F (bits .and .u8 (a.val : Int) 128 != 0)) = ((a.val : Int) == 1 || (a.val : Int) == 129) ∧ (((a.val : Int) == 1 || (a.val : Int) == 129) = true → (bits .and .u8 (a.val : Int) 128 != 0) = ((a.val : Int) == 129)) := by decide +kernel
theorem eqW_begB (l : List UInt8) : eqW l = begB l ∧ (begB l = true → sW l = sB l ∧ aW l = aB l) := by
  have h0 := s_tab ⟨(bt l 0).toNat, by have := bt_lo l 0; have := bt_hi l 0; omega⟩
  have h1 := a_tab ⟨(bt l 1).toNat, by have := bt_lo l 1; have := bt_hi l 1; omega⟩
  have e0 : (((bt l 0).toNat : Nat) : Int) = bt l 0 := by have := bt_lo l 0; omega
  have e1 : (((bt l 1).toNat : Nat) : Int) = bt l 1 := by have := bt_lo l 1; omega
  simp only [e0] at h0
  simp only [e1] at h1
  constructor
  · unfold eqW begB sW aW
    rw [h0.1, h1.1]
  · intro h
    unfold begB at h
    simp only [Bool.and_eq_true] at h
    exact ⟨h0.2 h.1.1.1, h1.2 h.1.1.2⟩
theorem eq_first (l : List UInt8) (s a : Bool) (W : World) : (Op.equalIn 10000 120 (.agg #[.int .u8 (bt l 0), .int .u8 (bt l 1), .int .u8 (bt l 2), .int .u8 (bt l 3)]) (.agg #[.int .u8 (b0F s), .int .u8 (b1F a), .int .u8 136, .int .u8 11])).run Try.prog W =
    .ok (bt l 0 == b0F s && bt l 1 == b1F a && bt l 2 == 136 && bt l 3 == 11) W := by
  obtain ⟨i8, hi8, _, hs8, _⟩ := info_parts info_u8
  have := run_eq_ints (P := Try.prog) W 9998 120 5 .u8 4
    #[.int .u8 (bt l 0), .int .u8 (bt l 1), .int .u8 (bt l 2), .int .u8 (bt l 3)] #[.int .u8 (b0F s), .int .u8 (b1F a), .int .u8 136, .int .u8 11]
    (fun i => [bt l 0, bt l 1, bt l 2, bt l 3].getD i 0) (fun i => [b0F s, b1F a, 136, 11].getD i 0)
    Try.underlying120 Try.underlying5 hi8 hs8 (fun i hi => by
      match i, hi with
      | 0, _ | 1, _ | 2, _ | 3, _ => rfl) (fun i hi => by
      match i, hi with
      | 0, _ | 1, _ | 2, _ | 3, _ => rfl)
  refine this.trans ?_
  congr 1
  rw [Bool.eq_iff_iff]
  simp [List.range, List.range.loop, and_assoc]
end Go.Proofs.Ythgoffbfgdgkpaa

namespace Go.Proofs.Ythgoffbfgdgkpaa
open Go.RowKit
set_option linter.unusedVariables false
set_option linter.unusedSimpArgs false
set_option linter.unusedSimpArgs false
set_option maxHeartbeats 4000000
set_option maxRecDepth 100000

theorem gre_no (p : Pkt) (A1 : Option Addr) (n1 c1 : Nat) (A2 : Option Addr) (n2 c2 : Nat) (w : World) (k2 : Bs w A2 n2 c2 p.dat) (E : Int)
    (h : (E = 12 ∧ (p.proto != 47) = true) ∨ (E = 3 ∧ (p.proto != 47) = false ∧ (n2 : Int) < 8)) :
    Calls Try.prog 73 #[(.agg #[.int .u8 (p).tos, .int .u16 (p).id, .bool (p).keep, .int .u8 (p).ttl, .int .u8 (p).proto, .int .u32 (p).src, .int .u32 (p).dst, .slice A1 n1 c1, .slice A2 n2 c2])] w (FrPost w zF E) := by
  have b2 := k2.max
  obtain ⟨k, hk⟩ : ∃ k : Nat, w.heap.size = k := ⟨_, rfl⟩
  obtain ⟨w1, hw1⟩ : ∃ w1, (w.alloc (.cells #[.int .u8 (p).tos, .int .u16 (p).id, .bool (p).keep, .int .u8 (p).ttl, .int .u8 (p).proto, .int .u32 (p).src, .int .u32 (p).dst, .slice A1 n1 c1, .slice A2 n2 c2] 26)).alloc (.cells #[.int .u16 0, .bool false, .bool false, .int .u32 0, .int .u32 0, .slice none 0 0] 52) = w1 := ⟨_, rfl⟩
  have P1 : Blk w1 k #[.int .u8 (p).tos, .int .u16 (p).id, .bool (p).keep, .int .u8 (p).ttl, .int .u8 (p).proto, .int .u32 (p).src, .int .u32 (p).dst, .slice A1 n1 c1, .slice A2 n2 c2] 26 := by rw [← hw1]; exact (blk_new w _ _ k hk).alloc _
  have Z1 : Blk w1 (k + 1) #[.int .u16 0, .bool false, .bool false, .int .u32 0, .int .u32 0, .slice none 0 0] 52 := by rw [← hw1]; exact blk_new _ _ _ (k + 1) (by simp [hk])
  have R1 : Below w.heap.size w w1 := by rw [← hw1]; (repeat (first | with_reducible exact Below.refl _ _ | with_reducible refine below_drew ?_ | with_reducible refine below_drewN ?_ _ | with_reducible refine below_alloc ?_ (Nat.le_refl _) _ | with_reducible refine Below.setCell ?_ (by first | exact Nat.le_refl _ | (simp only []; omega)) _ | with_reducible assumption))
  have pc := P1.cell
  have zc := Z1.cell
  have kl1 := P1.lt
  have zl1 := Z1.lt
  obtain ⟨gb, hgb⟩ : ∃ gb : Nat, w1.heap.size = gb := ⟨_, rfl⟩
  obtain ⟨w2, hw2⟩ : ∃ w2, w1.alloc (.cells #[.slice A2 n2 c2] 24) = w2 := ⟨_, rfl⟩
  have K2 : Blk w2 gb #[.slice A2 n2 c2] 24 := by rw [← hw2]; exact blk_new w1 _ _ gb hgb
  have V2 : Below w1.heap.size w1 w2 := by rw [← hw2]; (repeat (first | with_reducible exact Below.refl _ _ | with_reducible refine below_drew ?_ | with_reducible refine below_drewN ?_ _ | with_reducible refine below_alloc ?_ (Nat.le_refl _) _ | with_reducible refine Below.setCell ?_ (by first | exact Nat.le_refl _ | (simp only []; omega)) _ | with_reducible assumption))
  have T2 := below_then R1 V2
  have P2 := P1.below V2
  have Z2 := Z1.below V2
  have pc2 := P2.cell
  have zc2 := Z2.cell
  have kc2 := K2.cell
  obtain ⟨wf, hwf, Sf⟩ := store6 Z2 (.int .u16 0) (.bool false) (.bool false) (.int .u32 0) (.int .u32 0) (.slice none 0 0)
  have pf := Sf.blk.cell
  have Tf := Sf.bel T2 (by omega)
  rcases h with ⟨rfl, h1⟩ | ⟨rfl, h1, h2⟩
  all_goals go_enter Try.func73, Try.ntmps73
  all_goals go_wp2_with fail
  all_goals exact bodyPost_ret (by simp [results, Try.results73, go_sem, pf]) rfl (frPost_no Tf)
theorem gre_form (p : Pkt) (A1 : Option Addr) (n1 c1 : Nat) (A2 : Option Addr) (n2 c2 : Nat) (w : World) (k2 : Bs w A2 n2 c2 p.dat) (h1 : (p.proto != 47) = false) (h2 : 8 ≤ (n2 : Int)) (HH : eqW p.dat = false) :
    Calls Try.prog 73 #[(.agg #[.int .u8 (p).tos, .int .u16 (p).id, .bool (p).keep, .int .u8 (p).ttl, .int .u8 (p).proto, .int .u32 (p).src, .int .u32 (p).dst, .slice A1 n1 c1, .slice A2 n2 c2])] w (FrPost w zF 4) := by
  have b2 := k2.max
  have hcap := k2.cap
  have hlL : p.dat.take n2 = p.dat := List.take_of_length_le (by rw [k2.len]; exact Nat.le_refl _)
  obtain ⟨i8, hi8, -, hs8, -⟩ := info_parts info_u8
  obtain ⟨b, off, rfl⟩ := k2.some_ (by omega)
  have hcut4 : ∀ W, (Instr.slice 24 (.slice (some ⟨b, off, none⟩) n2 c2) none (some (.int .i64 4)) none).run Try.prog W = .ok (.slice (some ⟨b, off, none⟩) 4 c2) W := fun W => by
    rw [cut_h Try.underlying24 hi8 hs8 (some ⟨b, off, none⟩) n2 c2 .i64 4 (by omega) (by omega) W]; simp [Addr.add]
  have harr : ∀ W, (Instr.arrayAt 120 (.slice (some ⟨b, off, none⟩) 4 c2)).run Try.prog W = .ok (.pointer (some ⟨b, off, none⟩)) W := by
    intro W
    simp [Instr.arrayAt, run_underlying Try.underlying120, Result.andThen]
  obtain ⟨l, hl⟩ : ∃ l, p.dat = l := ⟨_, rfl⟩
  rw [hl] at k2 hlL HH
  obtain ⟨s, hs⟩ : ∃ s, (bits .and .u8 (bt l 0) 16 != 0) = s := ⟨_, rfl⟩
  obtain ⟨a, ha⟩ : ∃ a, (bits .and .u8 (bt l 1) 128 != 0) = a := ⟨_, rfl⟩
  obtain ⟨ev, hev⟩ : ∃ ev, (bt l 0 == b0F s && bt l 1 == b1F a && bt l 2 == 136 && bt l 3 == 11) = ev := ⟨_, rfl⟩
  have heq := eq_first l s a
  rw [hev] at heq
  have hle : eqW l = ev := by unfold eqW sW aW; rw [hs, ha, hev]
  have q0 : 0 < n2 := by omega
  have q0' : (0 : Int) < n2 := by omega
  have q1 : (1 : Int) < n2 := by omega
  have g40 := get16_lo l 4
  have g41 := get16_hi l 4
  obtain ⟨nn, hnn⟩ : ∃ nn, get16 l 4 = nn := ⟨_, rfl⟩
  rw [hnn] at g40 g41
  have HLL := Lib.hid hl
  clear hl
  have HNN := Lib.hid hnn
  have HEV := Lib.hid hev
  have HLE := Lib.hid hle
  clear hev hle hnn
  obtain ⟨k, hk⟩ : ∃ k : Nat, w.heap.size = k := ⟨_, rfl⟩
  obtain ⟨w1, hw1⟩ : ∃ w1, (w.alloc (.cells #[.int .u8 (p).tos, .int .u16 (p).id, .bool (p).keep, .int .u8 (p).ttl, .int .u8 (p).proto, .int .u32 (p).src, .int .u32 (p).dst, .slice A1 n1 c1, .slice (some ⟨b, off, none⟩) n2 c2] 26)).alloc (.cells #[.int .u16 0, .bool false, .bool false, .int .u32 0, .int .u32 0, .slice none 0 0] 52) = w1 := ⟨_, rfl⟩
  have P1 : Blk w1 k #[.int .u8 (p).tos, .int .u16 (p).id, .bool (p).keep, .int .u8 (p).ttl, .int .u8 (p).proto, .int .u32 (p).src, .int .u32 (p).dst, .slice A1 n1 c1, .slice (some ⟨b, off, none⟩) n2 c2] 26 := by rw [← hw1]; exact (blk_new w _ _ k hk).alloc _
  have Z1 : Blk w1 (k + 1) #[.int .u16 0, .bool false, .bool false, .int .u32 0, .int .u32 0, .slice none 0 0] 52 := by rw [← hw1]; exact blk_new _ _ _ (k + 1) (by simp [hk])
  have R1 : Below w.heap.size w w1 := by rw [← hw1]; (repeat (first | with_reducible exact Below.refl _ _ | with_reducible refine below_drew ?_ | with_reducible refine below_drewN ?_ _ | with_reducible refine below_alloc ?_ (Nat.le_refl _) _ | with_reducible refine Below.setCell ?_ (by first | exact Nat.le_refl _ | (simp only []; omega)) _ | with_reducible assumption))
  have pc := P1.cell
  have zc := Z1.cell
  have kl1 := P1.lt
  have zl1 := Z1.lt
  obtain ⟨gb, hgb⟩ : ∃ gb : Nat, w1.heap.size = gb := ⟨_, rfl⟩
  obtain ⟨w2, hw2⟩ : ∃ w2, w1.alloc (.cells #[.slice (some ⟨b, off, none⟩) n2 c2] 24) = w2 := ⟨_, rfl⟩
  have K2 : Blk w2 gb #[.slice (some ⟨b, off, none⟩) n2 c2] 24 := by rw [← hw2]; exact blk_new w1 _ _ gb hgb
  have V2 : Below w1.heap.size w1 w2 := by rw [← hw2]; (repeat (first | with_reducible exact Below.refl _ _ | with_reducible refine below_drew ?_ | with_reducible refine below_drewN ?_ _ | with_reducible refine below_alloc ?_ (Nat.le_refl _) _ | with_reducible refine Below.setCell ?_ (by first | exact Nat.le_refl _ | (simp only []; omega)) _ | with_reducible assumption))
  have T2 := below_then R1 V2
  have P2 := P1.below V2
  have Z2 := Z1.below V2
  have pc2 := P2.cell
  have zc2 := Z2.cell
  have kc2 := K2.cell
  have x2 := k2.below T2
  go_enter Try.func73, Try.ntmps73
  go_wp2_with fail
  refine region_txt 14 (by kernel_rfl) (by kernel_rfl) ?_; (iterate 14 (first | (apply ObsK.skip (by rfl)) | (apply ObsK.v (by rfl); (intro wo hT; (repeat (first | (intro v hv; (fail)) | (intro _ _ k; try have hcv := cv k))); (have kc := (K2.below hT).cell; have bo := x2.below hT; have c0 := bo.at_ (j := 0) (by omega); rw [Nat.add_zero] at c0; have c1 := bo.at_ (j := 1) (by omega); have hsz : w2.heap.size ≤ wo.heap.size := hT.size); refine Goes.mk ?_; go_simp; first | exact goes_v | exact goes_b (by assumption) | exact goes_new hsz | (refine goes_enter ?_; first | (go_at_call 47; ((with_reducible refine (get16_any (some ⟨b, off, none⟩) n2 c2 l 6 wo bo).mono ?_); rintro e w5 ⟨rfl, hD5⟩); exact ret_v hD5.bel)))) | (apply ObsK.b (by rfl); (intro wo hT; (repeat (first | (intro v hv; (fail)) | (intro _ _ k; try have hcv := cv k))); (have kc := (K2.below hT).cell; have bo := x2.below hT; have c0 := bo.at_ (j := 0) (by omega); rw [Nat.add_zero] at c0; have c1 := bo.at_ (j := 1) (by omega); have hsz : w2.heap.size ≤ wo.heap.size := hT.size); refine Goes.mk ?_; go_simp; first | exact goes_v | exact goes_b (by assumption) | exact goes_new hsz | (refine goes_enter ?_; first | (go_at_call 47; ((with_reducible refine (get16_any (some ⟨b, off, none⟩) n2 c2 l 6 wo bo).mono ?_); rintro e w5 ⟨rfl, hD5⟩); exact ret_v hD5.bel)))) | (apply ObsK.p (q := isNew w2.heap.size _ _) (by rfl) st_isNew; (intro wo hT; (repeat (first | (intro v hv; (fail)) | (intro _ _ k; try have hcv := cv k))); (have kc := (K2.below hT).cell; have bo := x2.below hT; have c0 := bo.at_ (j := 0) (by omega); rw [Nat.add_zero] at c0; have c1 := bo.at_ (j := 1) (by omega); have hsz : w2.heap.size ≤ wo.heap.size := hT.size); refine Goes.mk ?_; go_simp; first | exact goes_v | exact goes_b (by assumption) | exact goes_new hsz | (refine goes_enter ?_; first | (go_at_call 47; ((with_reducible refine (get16_any (some ⟨b, off, none⟩) n2 c2 l 6 wo bo).mono ?_); rintro e w5 ⟨rfl, hD5⟩); exact ret_v hD5.bel)))))); refine ObsK.nil ?_; intro wz hBz; simp only [finOn, List.drop_succ_cons, List.drop_zero, List.drop_nil]
  rintro vp ⟨gf, rfl, gfB, G⟩
  go_simp
  obtain ⟨w4, hw4, S4⟩ := store6 G (.int .u16 (get16 l 6)) (.bool s) (.bool a) (.int .u32 0) (.int .u32 0) (.slice none 0 0)
  have gc0 := G.cell
  have zl2 := Z2.lt
  have kl2 := K2.lt
  have kk : w.heap.size ≤ w2.heap.size := T2.size
  have F4 := S4.blk
  have Z4 := S4.other (by omega) (Z2.below hBz)
  have K4 := S4.other (by omega) (K2.below hBz)
  have T4 := S4.bel (below_then T2 hBz) (by omega)
  have x4 := k2.below T4
  go_wp2_with fail
  have hgbk : k + 1 < gb := by omega
  clear hw4 S4 gc0 G hBz pc zc pc2 zc2 kc2 hw1 hw2 hgb P2 P1
  refine region_txt 10 (by kernel_rfl) (by kernel_rfl) ?_; (iterate 10 (first | (apply ObsK.skip (by rfl)) | (apply ObsK.v (by rfl); (intro wo hT; (repeat (first | (intro _ _ k; try have hcv := cv k))); (have kc := (K4.below hT).cell; have fc := (F4.below hT).cell; have bo := x4.below hT; have c0 := bo.at_ (j := 0) (by omega); rw [Nat.add_zero] at c0; have c1 := bo.at_ (j := 1) (by omega); have c2' := bo.at_ (j := 2) (by omega); have c3 := bo.at_ (j := 3) (by omega)); refine Goes.mk ?_; go_simp; first | exact goes_v | exact goes_b (by assumption) | (refine goes_enter ?_; first | (go_at_call 82; ((with_reducible refine (begin_any s a wo).mono ?_); rintro e w5 ⟨rfl, hB5⟩); exact ret_v hB5)))) | (apply ObsK.b (by rfl); (intro wo hT; (repeat (first | (intro _ _ k; try have hcv := cv k))); (have kc := (K4.below hT).cell; have fc := (F4.below hT).cell; have bo := x4.below hT; have c0 := bo.at_ (j := 0) (by omega); rw [Nat.add_zero] at c0; have c1 := bo.at_ (j := 1) (by omega); have c2' := bo.at_ (j := 2) (by omega); have c3 := bo.at_ (j := 3) (by omega)); refine Goes.mk ?_; go_simp; first | exact goes_v | exact goes_b (by assumption) | (refine goes_enter ?_; first | (go_at_call 82; ((with_reducible refine (begin_any s a wo).mono ?_); rintro e w5 ⟨rfl, hB5⟩); exact ret_v hB5)))))); refine ObsK.nil ?_; intro wz hBz; simp only [finOn, List.drop_succ_cons, List.drop_zero, List.drop_nil]
  go_simp
  have F5 := F4.below hBz
  have Z5 := Z4.below hBz
  have K5 := K4.below hBz
  have T5 := below_then T4 hBz
  have x5 := k2.below T5
  have zc5 := Z5.cell
  have sz5 := hBz.size
  have zl4 := Z4.lt
  generalize wz = w5 at *
  clear hBz heq harr hcut4
  have hevf : ev = false := by rw [← HLE.out]; exact HH
  subst hevf
  go_wp2_with fail
  obtain ⟨wf, hwf, Sf⟩ := store6 Z5 (.int .u16 0) (.bool false) (.bool false) (.int .u32 0) (.int .u32 0) (.slice none 0 0)
  rw [hwf]
  have pf := Sf.blk.cell
  exact bodyPost_ret (by simp [results, Try.results73, go_sem, pf]) rfl (frPost_no (Sf.bel T5 (by omega)))
theorem gre_yes (p : Pkt) (A1 : Option Addr) (n1 c1 : Nat) (A2 : Option Addr) (n2 c2 : Nat) (w : World) (k2 : Bs w A2 n2 c2 p.dat) (h1 : (p.proto != 47) = false) (h2 : 8 ≤ (n2 : Int)) (HH : eqW p.dat = true) :
    Calls Try.prog 73 #[(.agg #[.int .u8 (p).tos, .int .u16 (p).id, .bool (p).keep, .int .u8 (p).ttl, .int .u8 (p).proto, .int .u32 (p).src, .int .u32 (p).dst, .slice A1 n1 c1, .slice A2 n2 c2])] w (FrPost w (geF p) (geE p)) := by
  have b2 := k2.max
  have hcap := k2.cap
  have hlL : p.dat.take n2 = p.dat := List.take_of_length_le (by rw [k2.len]; exact Nat.le_refl _)
  obtain ⟨i8, hi8, -, hs8, -⟩ := info_parts info_u8
  obtain ⟨b, off, rfl⟩ := k2.some_ (by omega)
  have hcut4 : ∀ W, (Instr.slice 24 (.slice (some ⟨b, off, none⟩) n2 c2) none (some (.int .i64 4)) none).run Try.prog W = .ok (.slice (some ⟨b, off, none⟩) 4 c2) W := fun W => by
    rw [cut_h Try.underlying24 hi8 hs8 (some ⟨b, off, none⟩) n2 c2 .i64 4 (by omega) (by omega) W]; simp [Addr.add]
  have harr : ∀ W, (Instr.arrayAt 120 (.slice (some ⟨b, off, none⟩) 4 c2)).run Try.prog W = .ok (.pointer (some ⟨b, off, none⟩)) W := by
    intro W
    simp [Instr.arrayAt, run_underlying Try.underlying120, Result.andThen]
  obtain ⟨l, hl⟩ : ∃ l, p.dat = l := ⟨_, rfl⟩
  rw [hl] at k2 hlL HH
  obtain ⟨s, hs⟩ : ∃ s, (bits .and .u8 (bt l 0) 16 != 0) = s := ⟨_, rfl⟩
  obtain ⟨a, ha⟩ : ∃ a, (bits .and .u8 (bt l 1) 128 != 0) = a := ⟨_, rfl⟩
  obtain ⟨ev, hev⟩ : ∃ ev, (bt l 0 == b0F s && bt l 1 == b1F a && bt l 2 == 136 && bt l 3 == 11) = ev := ⟨_, rfl⟩
  have heq := eq_first l s a
  rw [hev] at heq
  have hle : eqW l = ev := by unfold eqW sW aW; rw [hs, ha, hev]
  have q0 : 0 < n2 := by omega
  have q0' : (0 : Int) < n2 := by omega
  have q1 : (1 : Int) < n2 := by omega
  have g40 := get16_lo l 4
  have g41 := get16_hi l 4
  obtain ⟨nn, hnn⟩ : ∃ nn, get16 l 4 = nn := ⟨_, rfl⟩
  rw [hnn] at g40 g41
  have HLL := Lib.hid hl
  clear hl
  have HNN := Lib.hid hnn
  have HEV := Lib.hid hev
  have HLE := Lib.hid hle
  clear hev hle hnn
  obtain ⟨k, hk⟩ : ∃ k : Nat, w.heap.size = k := ⟨_, rfl⟩
  obtain ⟨w1, hw1⟩ : ∃ w1, (w.alloc (.cells #[.int .u8 (p).tos, .int .u16 (p).id, .bool (p).keep, .int .u8 (p).ttl, .int .u8 (p).proto, .int .u32 (p).src, .int .u32 (p).dst, .slice A1 n1 c1, .slice (some ⟨b, off, none⟩) n2 c2] 26)).alloc (.cells #[.int .u16 0, .bool false, .bool false, .int .u32 0, .int .u32 0, .slice none 0 0] 52) = w1 := ⟨_, rfl⟩
  have P1 : Blk w1 k #[.int .u8 (p).tos, .int .u16 (p).id, .bool (p).keep, .int .u8 (p).ttl, .int .u8 (p).proto, .int .u32 (p).src, .int .u32 (p).dst, .slice A1 n1 c1, .slice (some ⟨b, off, none⟩) n2 c2] 26 := by rw [← hw1]; exact (blk_new w _ _ k hk).alloc _
  have Z1 : Blk w1 (k + 1) #[.int .u16 0, .bool false, .bool false, .int .u32 0, .int .u32 0, .slice none 0 0] 52 := by rw [← hw1]; exact blk_new _ _ _ (k + 1) (by simp [hk])
  have R1 : Below w.heap.size w w1 := by rw [← hw1]; (repeat (first | with_reducible exact Below.refl _ _ | with_reducible refine below_drew ?_ | with_reducible refine below_drewN ?_ _ | with_reducible refine below_alloc ?_ (Nat.le_refl _) _ | with_reducible refine Below.setCell ?_ (by first | exact Nat.le_refl _ | (simp only []; omega)) _ | with_reducible assumption))
  have pc := P1.cell
  have zc := Z1.cell
  have kl1 := P1.lt
  have zl1 := Z1.lt
  obtain ⟨gb, hgb⟩ : ∃ gb : Nat, w1.heap.size = gb := ⟨_, rfl⟩
  obtain ⟨w2, hw2⟩ : ∃ w2, w1.alloc (.cells #[.slice (some ⟨b, off, none⟩) n2 c2] 24) = w2 := ⟨_, rfl⟩
  have K2 : Blk w2 gb #[.slice (some ⟨b, off, none⟩) n2 c2] 24 := by rw [← hw2]; exact blk_new w1 _ _ gb hgb
  have V2 : Below w1.heap.size w1 w2 := by rw [← hw2]; (repeat (first | with_reducible exact Below.refl _ _ | with_reducible refine below_drew ?_ | with_reducible refine below_drewN ?_ _ | with_reducible refine below_alloc ?_ (Nat.le_refl _) _ | with_reducible refine Below.setCell ?_ (by first | exact Nat.le_refl _ | (simp only []; omega)) _ | with_reducible assumption))
  have T2 := below_then R1 V2
  have P2 := P1.below V2
  have Z2 := Z1.below V2
  have pc2 := P2.cell
  have zc2 := Z2.cell
  have kc2 := K2.cell
  have x2 := k2.below T2
  go_enter Try.func73, Try.ntmps73
  go_wp2_with fail
  refine region_txt 14 (by kernel_rfl) (by kernel_rfl) ?_; (iterate 14 (first | (apply ObsK.skip (by rfl)) | (apply ObsK.v (by rfl); (intro wo hT; (repeat (first | (intro v hv; (fail)) | (intro _ _ k; try have hcv := cv k))); (have kc := (K2.below hT).cell; have bo := x2.below hT; have c0 := bo.at_ (j := 0) (by omega); rw [Nat.add_zero] at c0; have c1 := bo.at_ (j := 1) (by omega); have hsz : w2.heap.size ≤ wo.heap.size := hT.size); refine Goes.mk ?_; go_simp; first | exact goes_v | exact goes_b (by assumption) | exact goes_new hsz | (refine goes_enter ?_; first | (go_at_call 47; ((with_reducible refine (get16_any (some ⟨b, off, none⟩) n2 c2 l 6 wo bo).mono ?_); rintro e w5 ⟨rfl, hD5⟩); exact ret_v hD5.bel)))) | (apply ObsK.b (by rfl); (intro wo hT; (repeat (first | (intro v hv; (fail)) | (intro _ _ k; try have hcv := cv k))); (have kc := (K2.below hT).cell; have bo := x2.below hT; have c0 := bo.at_ (j := 0) (by omega); rw [Nat.add_zero] at c0; have c1 := bo.at_ (j := 1) (by omega); have hsz : w2.heap.size ≤ wo.heap.size := hT.size); refine Goes.mk ?_; go_simp; first | exact goes_v | exact goes_b (by assumption) | exact goes_new hsz | (refine goes_enter ?_; first | (go_at_call 47; ((with_reducible refine (get16_any (some ⟨b, off, none⟩) n2 c2 l 6 wo bo).mono ?_); rintro e w5 ⟨rfl, hD5⟩); exact ret_v hD5.bel)))) | (apply ObsK.p (q := isNew w2.heap.size _ _) (by rfl) st_isNew; (intro wo hT; (repeat (first | (intro v hv; (fail)) | (intro _ _ k; try have hcv := cv k))); (have kc := (K2.below hT).cell; have bo := x2.below hT; have c0 := bo.at_ (j := 0) (by omega); rw [Nat.add_zero] at c0; have c1 := bo.at_ (j := 1) (by omega); have hsz : w2.heap.size ≤ wo.heap.size := hT.size); refine Goes.mk ?_; go_simp; first | exact goes_v | exact goes_b (by assumption) | exact goes_new hsz | (refine goes_enter ?_; first | (go_at_call 47; ((with_reducible refine (get16_any (some ⟨b, off, none⟩) n2 c2 l 6 wo bo).mono ?_); rintro e w5 ⟨rfl, hD5⟩); exact ret_v hD5.bel)))))); refine ObsK.nil ?_; intro wz hBz; simp only [finOn, List.drop_succ_cons, List.drop_zero, List.drop_nil]
  rintro vp ⟨gf, rfl, gfB, G⟩
  go_simp
  obtain ⟨w4, hw4, S4⟩ := store6 G (.int .u16 (get16 l 6)) (.bool s) (.bool a) (.int .u32 0) (.int .u32 0) (.slice none 0 0)
  have gc0 := G.cell
  have zl2 := Z2.lt
  have kl2 := K2.lt
  have kk : w.heap.size ≤ w2.heap.size := T2.size
  have F4 := S4.blk
  have Z4 := S4.other (by omega) (Z2.below hBz)
  have K4 := S4.other (by omega) (K2.below hBz)
  have T4 := S4.bel (below_then T2 hBz) (by omega)
  have x4 := k2.below T4
  go_wp2_with fail
  have hgbk : k + 1 < gb := by omega
  clear hw4 S4 gc0 G hBz pc zc pc2 zc2 kc2 hw1 hw2 hgb P2 P1
  refine region_txt 10 (by kernel_rfl) (by kernel_rfl) ?_; (iterate 10 (first | (apply ObsK.skip (by rfl)) | (apply ObsK.v (by rfl); (intro wo hT; (repeat (first | (intro _ _ k; try have hcv := cv k))); (have kc := (K4.below hT).cell; have fc := (F4.below hT).cell; have bo := x4.below hT; have c0 := bo.at_ (j := 0) (by omega); rw [Nat.add_zero] at c0; have c1 := bo.at_ (j := 1) (by omega); have c2' := bo.at_ (j := 2) (by omega); have c3 := bo.at_ (j := 3) (by omega)); refine Goes.mk ?_; go_simp; first | exact goes_v | exact goes_b (by assumption) | (refine goes_enter ?_; first | (go_at_call 82; ((with_reducible refine (begin_any s a wo).mono ?_); rintro e w5 ⟨rfl, hB5⟩); exact ret_v hB5)))) | (apply ObsK.b (by rfl); (intro wo hT; (repeat (first | (intro _ _ k; try have hcv := cv k))); (have kc := (K4.below hT).cell; have fc := (F4.below hT).cell; have bo := x4.below hT; have c0 := bo.at_ (j := 0) (by omega); rw [Nat.add_zero] at c0; have c1 := bo.at_ (j := 1) (by omega); have c2' := bo.at_ (j := 2) (by omega); have c3 := bo.at_ (j := 3) (by omega)); refine Goes.mk ?_; go_simp; first | exact goes_v | exact goes_b (by assumption) | (refine goes_enter ?_; first | (go_at_call 82; ((with_reducible refine (begin_any s a wo).mono ?_); rintro e w5 ⟨rfl, hB5⟩); exact ret_v hB5)))))); refine ObsK.nil ?_; intro wz hBz; simp only [finOn, List.drop_succ_cons, List.drop_zero, List.drop_nil]
  go_simp
  have F5 := F4.below hBz
  have Z5 := Z4.below hBz
  have K5 := K4.below hBz
  have T5 := below_then T4 hBz
  have x5 := k2.below T5
  have zc5 := Z5.cell
  have sz5 := hBz.size
  have zl4 := Z4.lt
  generalize wz = w5 at *
  clear hBz heq harr hcut4
  have hevf : ev = true := by rw [← HLE.out]; exact HH
  subst hevf
  obtain ⟨a1, ha1⟩ : ∃ a1 : Int, (if s = true then (8 : Int) + 4 else 8) = a1 := ⟨_, rfl⟩
  have hHd : (if a = true then a1 + 4 else a1) = (hdG l : Int) := by
    have hb := eqW_begB l
    have hbb : begB l = true := by rw [← hb.1]; exact HH
    have hsa := hb.2 hbb
    have es : s = sB l := by rw [← hsa.1]; exact hs.symm
    have ea : a = aB l := by rw [← hsa.2]; exact ha.symm
    unfold hdG
    rw [← ha1, es, ea]
    cases sB l <;> cases aB l <;> rfl
  obtain ⟨H, hH⟩ : ∃ H : Nat, hdG l = H := ⟨_, rfl⟩
  have HRd : Hid (rdF l = ⟨get16 l 6, s, a, (if s = true then get32 l 8 else 0), (if a = true then get32 l a1 else 0), l.drop H⟩) := by
    have hb := eqW_begB l
    have hbb : begB l = true := by rw [← hb.1]; exact HH
    have hsa := hb.2 hbb
    have es : s = sB l := by rw [← hsa.1]; exact hs.symm
    have ea : a = aB l := by rw [← hsa.2]; exact ha.symm
    unfold Hid rdF
    rw [hH, ← ha1, es, ea]
    cases sB l <;> cases aB l <;> rfl
  have HE3 : Hid ((n2 : Int) < (H : Int) + nn → geF p = zF ∧ geE p = 3) := fun h => by
    have e : geE p = 3 := by
      unfold geE
      rw [if_neg (by simpa using h1), HLL.out, k2.len, if_neg (by omega), if_neg (by rw [← (eqW_begB l).1, HH]; decide), hH, HNN.out, if_pos h]
    exact ⟨by unfold geF; rw [e, if_neg (by decide)], e⟩
  have HE4 : Hid ((H : Int) + nn < (n2 : Int) → geF p = zF ∧ geE p = 4) := fun h => by
    have e : geE p = 4 := by
      unfold geE
      rw [if_neg (by simpa using h1), HLL.out, k2.len, if_neg (by omega), if_neg (by rw [← (eqW_begB l).1, HH]; decide), hH, HNN.out, if_neg (by omega), if_pos h]
    exact ⟨by unfold geF; rw [e, if_neg (by decide)], e⟩
  have HE0 : Hid ((H : Int) + nn = (n2 : Int) → geF p = rdF l ∧ geE p = 0) := fun h => by
    have e : geE p = 0 := by
      unfold geE
      rw [if_neg (by simpa using h1), HLL.out, k2.len, if_neg (by omega), if_neg (by rw [← (eqW_begB l).1, HH]; decide), hH, HNN.out, if_neg (by omega), if_neg (by omega)]
    exact ⟨by unfold geF; rw [e, if_pos rfl, HLL.out], e⟩
  have a10 : 8 ≤ a1 ∧ a1 ≤ 12 := by rw [← ha1]; split <;> omega
  have a20 : 8 ≤ (H : Int) ∧ (H : Int) ≤ 16 := by rw [← hH, ← hHd]; split <;> omega
  obtain ⟨a10, a11⟩ := a10
  obtain ⟨a20, a21⟩ := a20
  rw [hH] at hHd
  obtain ⟨sq, hsq⟩ : ∃ sq : Int, (if s = true then get32 l 8 else 0) = sq := ⟨_, rfl⟩
  obtain ⟨ak, hak⟩ : ∃ ak : Int, (if a = true then get32 l a1 else 0) = ak := ⟨_, rfl⟩
  have N1 : ∀ W, Blk W gb #[.slice (some ⟨b, off, none⟩) n2 c2] 24 → ∀ ga, Blk W ga #[.int .i64 8] 3 → gb ≠ ga → Bs W (some ⟨b, off, none⟩) n2 c2 l → Calls Try.prog 83 #[.bool s, .pointer (some ⟨gb, 0, none⟩), .pointer (some ⟨ga, 0, none⟩)] W fun e w' => e = .returned (.int .u32 sq) ∧ W.grownBy w' (some ga) ∧ Blk w' ga #[.int .i64 a1] 3 := fun W h1 ga h2 h3 h4 => by
    have := next_any s gb ga (some ⟨b, off, none⟩) n2 c2 l 8 (by omega) (by omega) W h1 h2 h3 h4
    rw [hsq, ha1] at this
    exact this
  have N2 : ∀ W, Blk W gb #[.slice (some ⟨b, off, none⟩) n2 c2] 24 → ∀ ga, Blk W ga #[.int .i64 a1] 3 → gb ≠ ga → Bs W (some ⟨b, off, none⟩) n2 c2 l → Calls Try.prog 83 #[.bool a, .pointer (some ⟨gb, 0, none⟩), .pointer (some ⟨ga, 0, none⟩)] W fun e w' => e = .returned (.int .u32 ak) ∧ W.grownBy w' (some ga) ∧ Blk w' ga #[.int .i64 (H : Int)] 3 := fun W h1 ga h2 h3 h4 => by
    have := next_any a gb ga (some ⟨b, off, none⟩) n2 c2 l a1 (by omega) (by omega) W h1 h2 h3 h4
    rw [hak, hHd] at this
    exact this
  have HA1 := Lib.hid ha1
  have HRD : Hid (rdF l = ⟨get16 l 6, s, a, sq, ak, l.drop H⟩) := by unfold Hid; rw [HRd.out, hsq, hak]
  have hHn : get16 l 4 = nn := HNN.out
  clear ha1 hsq hak hs ha hH hHd HRd HH HNN HLE
  have hmf : ∀ (fn : Fn) (first cap : Array Value) (w : World), (Instr.makeFunc fn first cap).run Try.prog w = .ok (.func fn first cap) w := fun _ _ _ _ => rfl
  obtain ⟨ga, hga⟩ : ∃ ga : Nat, w5.heap.size = ga := ⟨_, rfl⟩
  obtain ⟨w7, hw7⟩ : ∃ w7, w5.alloc (.cells #[.int .i64 8] 3) = w7 := ⟨_, rfl⟩
  have V7 : Below w5.heap.size w5 w7 := by rw [← hw7]; (repeat (first | with_reducible exact Below.refl _ _ | with_reducible refine below_drew ?_ | with_reducible refine below_drewN ?_ _ | with_reducible refine below_alloc ?_ (Nat.le_refl _) _ | with_reducible refine Below.setCell ?_ (by first | exact Nat.le_refl _ | (simp only []; omega)) _ | with_reducible assumption))
  have J7 : Blk w7 ga #[.int .i64 8] 3 := by rw [← hw7]; exact blk_new _ _ _ ga hga
  have fl5 := F5.lt
  have kl5 := K5.lt
  have zl5 := Z5.lt
  have F7 := F5.below V7
  have K7 := K5.below V7
  have Z7 := Z5.below V7
  have T7 := below_then T5 V7
  have kk5 : w.heap.size ≤ ga := by rw [← hga]; exact T5.size
  have hne : gb ≠ ga := by omega
  have hng : gf ≠ ga := by omega
  have hnz : k + 1 ≠ ga := by omega
  have HGA := Lib.hid hga
  have HV := Lib.hid V7.size
  go_wp2_with fail
  clear hga zc5 hw7
  refine regionX 9 [3, 7] ga (fun c W => match c with | 0 => Blk W ga #[.int .i64 8] 3 | 1 => Blk W ga #[.int .i64 a1] 3 | _ + 2 => Blk W ga #[.int .i64 (H : Int)] 3) (by kernel_rfl) (by kernel_rfl) (by kernel_rfl) J7 (fun c W W' hj hb => by cases c with | zero => exact Blk.below hj hb | succ n => cases n <;> exact Blk.below hj hb) ?_; (iterate 9 (first | (apply ObsX.skip (by rfl) (by rfl)) | (apply ObsX.v (by rfl) (by rfl); (intro wo hE; (repeat (first | (intro _ _ k; try have hcv := cv k))); (have fco := (F7.ext hE hng).cell; have Ko := K7.ext hE hne; have xo := k2.ext T7 kk5 hE; (try have hj0 : Blk wo ga #[.int .i64 8] 3 := hj); (try have hj1 : Blk wo ga #[.int .i64 a1] 3 := hj)); refine Goes.mk ?_; go_simp; first | exact goes_v | (refine goes_enter ?_; first | (go_at_call 83; ((with_reducible refine (N1 wo Ko ga hj0 hne xo).mono ?_); rintro e w9 ⟨rfl, hE9, hJ9⟩); exact ⟨_, rfl, rfl, hE9, hJ9⟩) | (go_at_call 83; ((with_reducible refine (N2 wo Ko ga hj1 hne xo).mono ?_); rintro e w9 ⟨rfl, hE9, hJ9⟩); exact ⟨_, rfl, rfl, hE9, hJ9⟩)))) | (apply ObsX.ev (by rfl) (by rfl); (intro wo hE hj; (repeat (first | (intro _ _ k; try have hcv := cv k))); (have fco := (F7.ext hE hng).cell; have Ko := K7.ext hE hne; have xo := k2.ext T7 kk5 hE; (try have hj0 : Blk wo ga #[.int .i64 8] 3 := hj); (try have hj1 : Blk wo ga #[.int .i64 a1] 3 := hj)); refine GoesX.mk ?_; go_simp; first | exact goes_v | (refine goes_enter ?_; first | (go_at_call 83; ((with_reducible refine (N1 wo Ko ga hj0 hne xo).mono ?_); rintro e w9 ⟨rfl, hE9, hJ9⟩); exact ⟨_, rfl, rfl, hE9, hJ9⟩) | (go_at_call 83; ((with_reducible refine (N2 wo Ko ga hj1 hne xo).mono ?_); rintro e w9 ⟨rfl, hE9, hJ9⟩); exact ⟨_, rfl, rfl, hE9, hJ9⟩)))))); refine ObsX.nil ?_; intro wz hEz hJz; simp only [finOn, List.drop_succ_cons, List.drop_zero, List.drop_nil]
  go_simp
  have J8 : Blk wz ga #[.int .i64 (H : Int)] 3 := hJz
  have F8 := F7.ext hEz hng
  have K8 := K7.ext hEz hne
  have Z8 := Z7.ext hEz hnz
  have T8 : Below w.heap.size w wz := T7.grown hEz T7.size (fun k e => by injection e with e; omega)
  clear N1 N2
  have fc8 := F8.cell
  have fl8 := F8.lt
  have kl8 := K8.lt
  have zl8 := Z8.lt
  have jl8 := J8.lt
  obtain ⟨w9, hw9, S9⟩ : ∃ wf, (wz.setCell ⟨gf, 3, none⟩ (.int .u32 sq)).setCell ⟨gf, 4, none⟩ (.int .u32 ak) = wf ∧ Sto wz gf wf #[.int .u16 (get16 l 6), .bool s, .bool a, .int .u32 sq, .int .u32 ak, .slice none 0 0] 52 := ⟨_, rfl, by
    have := ((Sto.nil F8).set 3 (.int .u32 sq)).set 4 (.int .u32 ak)
    simp only [List.setIfInBounds_toArray, List.set_cons_zero, List.set_cons_succ] at this
    exact this⟩
  have hgf : w.heap.size ≤ gf := Nat.le_trans kk gfB
  have F9 := S9.blk
  have J9 := S9.other (Ne.symm hng) J8
  have K9 := S9.other (by omega) K8
  have Z9 := S9.other (by omega) Z8
  have T9 := S9.bel T8 hgf
  have x9 := k2.below T9
  go_wp2_with fail
  clear hw9 S9 fc8 F8 J8 K8 Z8 T8 hJz hEz
  refine region_txt 5 (by kernel_rfl) (by kernel_rfl) ?_; (iterate 5 (first | (apply ObsK.skip (by rfl)) | (apply ObsK.v (by rfl); (intro wo hT; (repeat (first | (intro _ _ k; try have hcv := cv k))); (have jco := (J9.below hT).cell; have kco := (K9.below hT).cell; have bo := x9.below hT); refine Goes.mk ?_; go_simp; first | exact goes_v | exact goes_b (by assumption) | (refine goes_enter ?_; first | (go_at_call 47; ((with_reducible refine (get16_any (some ⟨b, off, none⟩) n2 c2 l 4 wo bo).mono ?_); rintro e w10 ⟨rfl, hD10⟩); (try rw [hHn]); exact ret_v hD10.bel)))) | (apply ObsK.b (by rfl); (intro wo hT; (repeat (first | (intro _ _ k; try have hcv := cv k))); (have jco := (J9.below hT).cell; have kco := (K9.below hT).cell; have bo := x9.below hT); refine Goes.mk ?_; go_simp; first | exact goes_v | exact goes_b (by assumption) | (refine goes_enter ?_; first | (go_at_call 47; ((with_reducible refine (get16_any (some ⟨b, off, none⟩) n2 c2 l 4 wo bo).mono ?_); rintro e w10 ⟨rfl, hD10⟩); (try rw [hHn]); exact ret_v hD10.bel)))))); refine ObsK.nil ?_; intro wz hBz; simp only [finOn, List.drop_succ_cons, List.drop_zero, List.drop_nil]
  go_simp
  have F10 := F9.below hBz
  have J10 := J9.below hBz
  have K10 := K9.below hBz
  have Z10 := Z9.below hBz
  have T10 := below_then T9 hBz
  have x10 := k2.below T10
  have fc10 := F10.cell
  have jc10 := J10.cell
  have kc10 := K10.cell
  have zc10 := Z10.cell
  have hf10 := F10.lt
  have zl10 := Z10.lt
  by_cases t1 : (n2 : Int) < (H : Int) + nn
  · obtain ⟨eF, eE⟩ := HE3.out t1
    have GF := Lib.hid eF
    have GE := Lib.hid eE
    clear eF eE
    go_wp2_with fail
    obtain ⟨wf, hwf, Sf⟩ := store6 Z10 (.int .u16 0) (.bool false) (.bool false) (.int .u32 0) (.int .u32 0) (.slice none 0 0)
    rw [hwf, GF.out, GE.out]
    have pf := Sf.blk.cell
    exact bodyPost_ret (by simp [results, Try.results73, go_sem, pf]) rfl (frPost_no (Sf.bel T10 (by omega)))
  · by_cases t2 : (H : Int) + nn < (n2 : Int)
    · obtain ⟨eF, eE⟩ := HE4.out t2
      have GF := Lib.hid eF
      have GE := Lib.hid eE
      clear eF eE
      go_wp2_with fail
      obtain ⟨wf, hwf, Sf⟩ := store6 Z10 (.int .u16 0) (.bool false) (.bool false) (.int .u32 0) (.int .u32 0) (.slice none 0 0)
      rw [hwf, GF.out, GE.out]
      have pf := Sf.blk.cell
      exact bodyPost_ret (by simp [results, Try.results73, go_sem, pf]) rfl (frPost_no (Sf.bel T10 (by omega)))
    · obtain ⟨eF, eE⟩ := HE0.out (by omega)
      rw [HRD.out] at eF
      have GF := Lib.hid eF
      have GE := Lib.hid eE
      clear eF eE HE0 HE3 HE4 HRD
      have hH : H ≤ n2 := by omega
      have hcut : ∀ W, (Instr.slice 24 (.slice (some ⟨b, off, none⟩) n2 c2) (some (.int .i64 (H : Int))) none none).run Try.prog W = _ := fun W => cut_l Try.underlying24 hi8 hs8 (some ⟨b, off, none⟩) n2 c2 .i64 H (by omega) (by omega) W
      obtain ⟨A', n', c', eA, en, ec, hbD⟩ := x10.cutE (lo := H) (hi := n2) hH (Nat.le_refl _)
      simp only [Int.toNat_natCast, eA, en, ec] at hcut
      rw [hlL] at hbD
      clear eA en ec hlL
      go_wp2_with (go_at_call 64; ((with_reducible refine (clone_any A' n' c' _ _ hbD).mono ?_); rintro e w11 ⟨A9, c9, rfl, ho9, hB9⟩); have F11 := F10.below hB9; have Z11 := Z10.below hB9; have fc11 := F11.cell; (obtain ⟨w12, hw12, S12⟩ := store1 F11 5 (.slice A9 n' c9)); simp only [List.setIfInBounds_toArray, List.set_cons_zero, List.set_cons_succ] at S12; have F12 := S12.blk.cell; have Z12 := S12.other (by omega) Z11; have zc12 := Z12.cell; have zl12 := Z12.lt; have T12 := S12.bel (below_then T10 hB9) hgf; have O12 := S12.own ho9 (fun a e => by have := ho9.ge a e; omega))
      obtain ⟨wf, hwf, Sf⟩ := store6 Z12 (.int .u16 (get16 l 6)) (.bool s) (.bool a) (.int .u32 sq) (.int .u32 ak) (.slice A9 n' c9)
      rw [hwf, GF.out, GE.out]
      have pf := Sf.blk.cell
      have Of := Sf.own O12 (fun a e => by have := O12.ge a e; omega)
      have s10 := T10.size
      exact bodyPost_ret (v := .tuple #[.agg #[.int .u16 (get16 l 6), .bool s, .bool a, .int .u32 sq, .int .u32 ak, .slice A9 n' c9], .int .i64 0]) (by simp [results, Try.results73, go_sem, pf]) rfl ⟨A9, n', c9, rfl, Of.mono s10, Sf.bel T12 (by omega)⟩
theorem gre_any (p : Pkt) (A1 : Option Addr) (n1 c1 : Nat) (A2 : Option Addr) (n2 c2 : Nat) (w : World) (k2 : Bs w A2 n2 c2 p.dat) :
    Calls Try.prog 73 #[(.agg #[.int .u8 (p).tos, .int .u16 (p).id, .bool (p).keep, .int .u8 (p).ttl, .int .u8 (p).proto, .int .u32 (p).src, .int .u32 (p).dst, .slice A1 n1 c1, .slice A2 n2 c2])] w (FrPost w (geF p) (geE p)) := by
  have l2 := k2.len
  by_cases h1 : p.proto = 47
  · have h1' : (p.proto != 47) = false := by simp [h1]
    by_cases h2 : 8 ≤ (n2 : Int)
    · cases hq : eqW p.dat with
      | true => exact gre_yes p A1 n1 c1 A2 n2 c2 w k2 h1' h2 hq
      | false =>
        have e : geE p = 4 := by unfold geE; rw [if_neg (by simp [h1]), l2, if_neg (by omega), if_pos (by rw [← (eqW_begB p.dat).1, hq])]
        rw [show geF p = zF from by unfold geF; rw [e, if_neg (by decide)], e]
        exact gre_form p A1 n1 c1 A2 n2 c2 w k2 h1' h2 hq
    · have e : geE p = 3 := by unfold geE; rw [if_neg (by simp [h1]), l2, if_pos (by omega)]
      rw [show geF p = zF from by unfold geF; rw [e, if_neg (by decide)], e]
      exact gre_no p A1 n1 c1 A2 n2 c2 w k2 3 (.inr ⟨rfl, h1', by omega⟩)
  · have e : geE p = 12 := by unfold geE; rw [if_pos h1]
    rw [show geF p = zF from by unfold geF; rw [e, if_neg (by decide)], e]
    exact gre_no p A1 n1 c1 A2 n2 c2 w k2 12 (.inl ⟨rfl, by simpa using h1⟩)
end Go.Proofs.Ythgoffbfgdgkpaa

namespace Go.Proofs.Ythgoffbfgdgkpaa
open Go.RowKit Go.MapKept
set_option linter.unusedVariables false
set_option linter.unusedSimpArgs false
set_option maxHeartbeats 4000000
set_option maxRecDepth 100000

def wayT : Value := .agg #[.func (.func 48) #[] #[], .func (.func 46) #[] #[]]
def wayU : Value := .agg #[.func (.func 49) #[] #[], .func (.func 46) #[] #[]]
def wayI : Value := .agg #[.func (.func 50) #[] #[], .func (.func 51) #[] #[]]
def wayG : Value := .agg #[.func (.func 52) #[] #[], .func (.func 53) #[] #[]]
def kn : Nat → Array MapEntry
  | 0 => #[]
  | 1 => #[⟨.int .u8 6, wayT, 0⟩]
  | 2 => #[⟨.int .u8 6, wayT, 0⟩, ⟨.int .u8 17, wayU, 1⟩]
  | 3 => #[⟨.int .u8 6, wayT, 0⟩, ⟨.int .u8 17, wayU, 1⟩, ⟨.int .u8 1, wayI, 2⟩]
  | _ => #[⟨.int .u8 6, wayT, 0⟩, ⟨.int .u8 17, wayU, 1⟩, ⟨.int .u8 1, wayI, 2⟩, ⟨.int .u8 47, wayG, 3⟩]
theorem push_setK {α : Type} (h : Array α) (x y : α) : (h.push x).setIfInBounds h.size y = h.push y := by
  apply Array.ext_getElem?
  intro i
  simp only [Array.getElem?_setIfInBounds, Array.getElem?_push, Array.size_push]
  by_cases e : i = h.size
  · simp [e]
  · simp [e, Ne.symm e]
theorem run_insertK {w : World} {es es' : Array MapEntry} {c : Nat} (k : Int) (v : Value) (h : Instr.findNow (.int .u8) (.int .u8 k) es.toList 0 = some none) (he : es.push ⟨.int .u8 k, v, c⟩ = es') :
    (Instr.mapUpdate 63 (.map (some w.heap.size)) (.int .u8 k) v).run Try.prog (w.alloc (.map es c)) = .ok () (w.alloc (.map es' (c + 1))) := by
  have hb : (w.alloc (.map es c)).heap[w.heap.size]? = some (.map es c) := (heap_alloc w _).1
  have ht := Try.underlying63
  have hk := Try.underlying5
  have hkey : IsKey (.int .u8) (.int .u8 k) := rfl
  subst he
  simp [Instr.mapUpdate, run_underlying ht, MapKept.run_getObj_map hb, run_checkKey hk hkey, run_findKey hk h, run_setObj_map _ hb, Result.andThen]
  show ({ w with heap := (w.heap.push _).setIfInBounds w.heap.size _ } : World) = _
  rw [push_setK]
  rfl
theorem known_any (w : World) :
    Calls Try.prog 27 #[] w fun e w' => e = .returned (.map (some w.heap.size)) ∧ w' = w.alloc (.map (kn 4) 4) := by
  have h0 : (Instr.makeMap 63 none).run Try.prog w = .ok (.map (some w.heap.size)) (w.alloc (.map (kn 0) 0)) := rfl
  have h1 := run_insertK (w := w) (es := kn 0) (es' := kn 1) (c := 0) 6 wayT rfl rfl
  have h2 := run_insertK (w := w) (es := kn 1) (es' := kn 2) (c := 1) 17 wayU rfl rfl
  have h3 := run_insertK (w := w) (es := kn 2) (es' := kn 3) (c := 2) 1 wayI rfl rfl
  have h4 := run_insertK (w := w) (es := kn 3) (es' := kn 4) (c := 3) 47 wayG rfl rfl
  unfold wayT at h1; unfold wayU at h2; unfold wayI at h3; unfold wayG at h4
  go_enter Try.func27, Try.ntmps27
  go_wp2_with fail
  go_ret
  exact ⟨rfl, rfl⟩
def knB (t : Int) : Bool := t == 6 || t == 17 || t == 1 || t == 47
def knV (t : Int) : Value := if t = 6 then wayT else if t = 17 then wayU else if t = 1 then wayI else if t = 47 then wayG else .agg #[.nilFunc, .nilFunc]
theorem run_known {W : World} {r : Nat} (h : W.heap[r]? = some (.map (kn 4) 4)) (t : Int) :
    (Instr.lookup 63 (.map (some r)) (.int .u8 t) true).run Try.prog W = .ok (.tuple #[knV t, .bool (knB t)]) W := by
  have ht := Try.underlying63
  have hk := Try.underlying5
  have hkey : IsKey (.int .u8) (.int .u8 t) := rfl
  have hz : (zeroValue 61).run Try.prog W = .ok (.agg #[.nilFunc, .nilFunc]) W := by rfl
  have hemp : (kn 4).isEmpty = false := rfl
  by_cases h6 : t = 6
  · subst h6
    have hf : Instr.findNow (.int .u8) (.int .u8 6) (kn 4).toList 0 = some (some (0, wayT)) := rfl
    simp [Instr.lookup, run_underlying ht, MapKept.run_getObj_map h, run_checkKey hk hkey, run_findKey hk hf, Result.andThen, knV, knB]
  by_cases h17 : t = 17
  · subst h17
    have hf : Instr.findNow (.int .u8) (.int .u8 17) (kn 4).toList 0 = some (some (1, wayU)) := rfl
    simp [Instr.lookup, run_underlying ht, MapKept.run_getObj_map h, run_checkKey hk hkey, run_findKey hk hf, Result.andThen, knV, knB]
  by_cases h1 : t = 1
  · subst h1
    have hf : Instr.findNow (.int .u8) (.int .u8 1) (kn 4).toList 0 = some (some (2, wayI)) := rfl
    simp [Instr.lookup, run_underlying ht, MapKept.run_getObj_map h, run_checkKey hk hkey, run_findKey hk hf, Result.andThen, knV, knB]
  by_cases h47 : t = 47
  · subst h47
    have hf : Instr.findNow (.int .u8) (.int .u8 47) (kn 4).toList 0 = some (some (3, wayG)) := rfl
    simp [Instr.lookup, run_underlying ht, MapKept.run_getObj_map h, run_checkKey hk hkey, run_findKey hk hf, Result.andThen, knV, knB]
  have hf : Instr.findNow (.int .u8) (.int .u8 t) (kn 4).toList 0 = some none := by
    simp [kn, Instr.findNow, Instr.sameNow, beq_eq_false_iff_ne.2 h6, beq_eq_false_iff_ne.2 h17, beq_eq_false_iff_ne.2 h1, beq_eq_false_iff_ne.2 h47]
  simp [Instr.lookup, run_underlying ht, MapKept.run_getObj_map h, run_checkKey hk hkey, run_findKey hk hf, Result.andThen, knV, knB, hz, h6, h17, h1, h47]

structure PtPost (w : World) (a b E : Int) (e : Ending) (w' : World) : Prop where
  out : e = .returned (.tuple #[.agg #[.int .u16 a, .int .u16 b], .int .i64 E]) ∧ Below w.heap.size w w'
theorem ptcp_any (p : Pkt) (hp : p.Ok) (A1 : Option Addr) (n1 c1 : Nat) (A2 : Option Addr) (n2 c2 : Nat) (w : World) (k2 : Bs w A2 n2 c2 p.dat) (h7 : n2 ≤ 140737488400000) :
    Calls Try.prog 48 #[(.agg #[.int .u8 (p).tos, .int .u16 (p).id, .bool (p).keep, .int .u8 (p).ttl, .int .u8 (p).proto, .int .u32 (p).src, .int .u32 (p).dst, .slice A1 n1 c1, .slice A2 n2 c2])] w (PtPost w (tcS p).src (tcS p).dst (tcE p)) := by
  have ht := fun W (h : Bs W A2 n2 c2 p.dat) => tcp_any p hp A1 n1 c1 A2 n2 c2 W h h7
  obtain ⟨s, hs⟩ : ∃ s, tcS p = s := ⟨_, rfl⟩
  obtain ⟨E, hE⟩ : ∃ s, tcE p = s := ⟨_, rfl⟩
  rw [hs, hE] at ht
  rw [hs, hE]
  clear hs hE
  obtain ⟨k, hk⟩ : ∃ k : Nat, w.heap.size = k := ⟨_, rfl⟩
  obtain ⟨w1, hw1⟩ : ∃ W, ((w.alloc (.cells #[.int .u8 (p).tos, .int .u16 (p).id, .bool (p).keep, .int .u8 (p).ttl, .int .u8 (p).proto, .int .u32 (p).src, .int .u32 (p).dst, .slice A1 n1 c1, .slice A2 n2 c2] 26)).alloc (.cells #[.int .u16 0, .int .u16 0] 66)) = W := ⟨_, rfl⟩
  have P1 : Blk w1 k #[.int .u8 (p).tos, .int .u16 (p).id, .bool (p).keep, .int .u8 (p).ttl, .int .u8 (p).proto, .int .u32 (p).src, .int .u32 (p).dst, .slice A1 n1 c1, .slice A2 n2 c2] 26 := by rw [← hw1]; exact ((blk_new _ _ _ k (by simp [hk])).alloc _)
  have Z1 : Blk w1 (k + 1) #[.int .u16 0, .int .u16 0] 66 := by rw [← hw1]; exact (blk_new _ _ _ (k + 1) (by simp [hk]))
  have R1 : Below w.heap.size w w1 := by rw [← hw1]; (repeat (first | with_reducible exact Below.refl _ _ | with_reducible refine below_drew ?_ | with_reducible refine below_drewN ?_ _ | with_reducible refine below_alloc ?_ (Nat.le_refl _) _ | with_reducible refine Below.setCell ?_ (by first | exact Nat.le_refl _ | (simp only []; omega)) _ | with_reducible assumption))
  have Pc1 := P1.cell
  have Zc1 := Z1.cell
  have Pl1 := P1.lt
  have Zl1 := Z1.lt
  have x1 := (k2).below R1
  go_enter Try.func48, Try.ntmps48
  go_wp2_with (go_at_call 70; ((with_reducible refine (ht w1 x1).mono ?_); rintro e u2 ⟨⟨OA, on, oc, DA, dn, dc, rfl, -, -, -, hB2⟩⟩); (obtain ⟨w2, hw2⟩ : ∃ W, u2.alloc (.cells #[.int .u16 (s).src, .int .u16 (s).dst, .int .u32 (s).seq, .int .u32 (s).ack, .int .u8 (s).flags, .int .u16 (s).win, .int .u16 (s).urg, .slice OA on oc, .slice DA dn dc] 42) = W := ⟨_, rfl⟩); have V2 : Below u2.heap.size u2 w2 := (by rw [← hw2]; (repeat (first | with_reducible exact Below.refl _ _ | with_reducible refine below_drew ?_ | with_reducible refine below_drewN ?_ _ | with_reducible refine below_alloc ?_ (Nat.le_refl _) _ | with_reducible refine Below.setCell ?_ (by first | exact Nat.le_refl _ | (simp only []; omega)) _ | with_reducible assumption))); (obtain ⟨kS2, hkS2⟩ : ∃ k : Nat, u2.heap.size = k := ⟨_, rfl⟩); have S2 : Blk w2 kS2 #[.int .u16 (s).src, .int .u16 (s).dst, .int .u32 (s).seq, .int .u32 (s).ack, .int .u8 (s).flags, .int .u16 (s).win, .int .u16 (s).urg, .slice OA on oc, .slice DA dn dc] 42 := (by rw [← hw2]; exact blk_new u2 _ _ _ hkS2); have Sc2 := S2.cell; have T2 := below_then hB2 V2; have P2 := P1.below T2; have Pc2 := P2.cell; clear Pc1; have Z2 := Z1.below T2; have Zc2 := Z2.cell; clear Zc1; have x2 := x1.below T2; have R2 := below_then R1 T2)
  obtain ⟨wf, hwf, Sf⟩ := store2 Z2 (.int .u16 s.src) (.int .u16 s.dst)
  rw [hwf]
  have pf := Sf.blk.cell
  exact bodyPost_ret (by simp [results, Try.results48, go_sem, pf]) rfl ⟨⟨rfl, Sf.bel R2 (by omega)⟩⟩

theorem pudp_any (p : Pkt) (hp : p.Ok) (A1 : Option Addr) (n1 c1 : Nat) (A2 : Option Addr) (n2 c2 : Nat) (w : World) (k2 : Bs w A2 n2 c2 p.dat) :
    Calls Try.prog 49 #[(.agg #[.int .u8 (p).tos, .int .u16 (p).id, .bool (p).keep, .int .u8 (p).ttl, .int .u8 (p).proto, .int .u32 (p).src, .int .u32 (p).dst, .slice A1 n1 c1, .slice A2 n2 c2])] w (PtPost w (udD p).src (udD p).dst (udE p)) := by
  have ht := fun W (h : Bs W A2 n2 c2 p.dat) => udp_any p hp A1 n1 c1 A2 n2 c2 W h
  obtain ⟨s, hs⟩ : ∃ s, udD p = s := ⟨_, rfl⟩
  obtain ⟨E, hE⟩ : ∃ s, udE p = s := ⟨_, rfl⟩
  rw [hs, hE] at ht
  rw [hs, hE]
  clear hs hE
  obtain ⟨k, hk⟩ : ∃ k : Nat, w.heap.size = k := ⟨_, rfl⟩
  obtain ⟨w1, hw1⟩ : ∃ W, ((w.alloc (.cells #[.int .u8 (p).tos, .int .u16 (p).id, .bool (p).keep, .int .u8 (p).ttl, .int .u8 (p).proto, .int .u32 (p).src, .int .u32 (p).dst, .slice A1 n1 c1, .slice A2 n2 c2] 26)).alloc (.cells #[.int .u16 0, .int .u16 0] 66)) = W := ⟨_, rfl⟩
  have P1 : Blk w1 k #[.int .u8 (p).tos, .int .u16 (p).id, .bool (p).keep, .int .u8 (p).ttl, .int .u8 (p).proto, .int .u32 (p).src, .int .u32 (p).dst, .slice A1 n1 c1, .slice A2 n2 c2] 26 := by rw [← hw1]; exact ((blk_new _ _ _ k (by simp [hk])).alloc _)
  have Z1 : Blk w1 (k + 1) #[.int .u16 0, .int .u16 0] 66 := by rw [← hw1]; exact (blk_new _ _ _ (k + 1) (by simp [hk]))
  have R1 : Below w.heap.size w w1 := by rw [← hw1]; (repeat (first | with_reducible exact Below.refl _ _ | with_reducible refine below_drew ?_ | with_reducible refine below_drewN ?_ _ | with_reducible refine below_alloc ?_ (Nat.le_refl _) _ | with_reducible refine Below.setCell ?_ (by first | exact Nat.le_refl _ | (simp only []; omega)) _ | with_reducible assumption))
  have Pc1 := P1.cell
  have Zc1 := Z1.cell
  have Pl1 := P1.lt
  have Zl1 := Z1.lt
  have x1 := (k2).below R1
  go_enter Try.func49, Try.ntmps49
  go_wp2_with (go_at_call 71; ((with_reducible refine (ht w1 x1).mono ?_); rintro e u2 ⟨⟨DA, dn, dc, rfl, -, hB2⟩⟩); (obtain ⟨w2, hw2⟩ : ∃ W, u2.alloc (.cells #[.int .u16 (s).src, .int .u16 (s).dst, .bool (s).bare, .slice DA dn dc] 45) = W := ⟨_, rfl⟩); have V2 : Below u2.heap.size u2 w2 := (by rw [← hw2]; (repeat (first | with_reducible exact Below.refl _ _ | with_reducible refine below_drew ?_ | with_reducible refine below_drewN ?_ _ | with_reducible refine below_alloc ?_ (Nat.le_refl _) _ | with_reducible refine Below.setCell ?_ (by first | exact Nat.le_refl _ | (simp only []; omega)) _ | with_reducible assumption))); (obtain ⟨kS2, hkS2⟩ : ∃ k : Nat, u2.heap.size = k := ⟨_, rfl⟩); have S2 : Blk w2 kS2 #[.int .u16 (s).src, .int .u16 (s).dst, .bool (s).bare, .slice DA dn dc] 45 := (by rw [← hw2]; exact blk_new u2 _ _ _ hkS2); have Sc2 := S2.cell; have T2 := below_then hB2 V2; have P2 := P1.below T2; have Pc2 := P2.cell; clear Pc1; have Z2 := Z1.below T2; have Zc2 := Z2.cell; clear Zc1; have x2 := x1.below T2; have R2 := below_then R1 T2)
  obtain ⟨wf, hwf, Sf⟩ := store2 Z2 (.int .u16 s.src) (.int .u16 s.dst)
  rw [hwf]
  have pf := Sf.blk.cell
  exact bodyPost_ret (by simp [results, Try.results49, go_sem, pf]) rfl ⟨⟨rfl, Sf.bel R2 (by omega)⟩⟩

theorem pgre_any (p : Pkt) (A1 : Option Addr) (n1 c1 : Nat) (A2 : Option Addr) (n2 c2 : Nat) (w : World) (k2 : Bs w A2 n2 c2 p.dat) :
    Calls Try.prog 52 #[(.agg #[.int .u8 (p).tos, .int .u16 (p).id, .bool (p).keep, .int .u8 (p).ttl, .int .u8 (p).proto, .int .u32 (p).src, .int .u32 (p).dst, .slice A1 n1 c1, .slice A2 n2 c2])] w (PtPost w 0 (geF p).call (geE p)) := by
  have ht := fun W (h : Bs W A2 n2 c2 p.dat) => gre_any p A1 n1 c1 A2 n2 c2 W h
  obtain ⟨s, hs⟩ : ∃ s, geF p = s := ⟨_, rfl⟩
  obtain ⟨E, hE⟩ : ∃ s, geE p = s := ⟨_, rfl⟩
  rw [hs, hE] at ht
  rw [hs, hE]
  clear hs hE
  obtain ⟨k, hk⟩ : ∃ k : Nat, w.heap.size = k := ⟨_, rfl⟩
  obtain ⟨w1, hw1⟩ : ∃ W, ((w.alloc (.cells #[.int .u8 (p).tos, .int .u16 (p).id, .bool (p).keep, .int .u8 (p).ttl, .int .u8 (p).proto, .int .u32 (p).src, .int .u32 (p).dst, .slice A1 n1 c1, .slice A2 n2 c2] 26)).alloc (.cells #[.int .u16 0, .int .u16 0] 66)) = W := ⟨_, rfl⟩
  have P1 : Blk w1 k #[.int .u8 (p).tos, .int .u16 (p).id, .bool (p).keep, .int .u8 (p).ttl, .int .u8 (p).proto, .int .u32 (p).src, .int .u32 (p).dst, .slice A1 n1 c1, .slice A2 n2 c2] 26 := by rw [← hw1]; exact ((blk_new _ _ _ k (by simp [hk])).alloc _)
  have Z1 : Blk w1 (k + 1) #[.int .u16 0, .int .u16 0] 66 := by rw [← hw1]; exact (blk_new _ _ _ (k + 1) (by simp [hk]))
  have R1 : Below w.heap.size w w1 := by rw [← hw1]; (repeat (first | with_reducible exact Below.refl _ _ | with_reducible refine below_drew ?_ | with_reducible refine below_drewN ?_ _ | with_reducible refine below_alloc ?_ (Nat.le_refl _) _ | with_reducible refine Below.setCell ?_ (by first | exact Nat.le_refl _ | (simp only []; omega)) _ | with_reducible assumption))
  have Pc1 := P1.cell
  have Zc1 := Z1.cell
  have Pl1 := P1.lt
  have Zl1 := Z1.lt
  have x1 := (k2).below R1
  go_enter Try.func52, Try.ntmps52
  go_wp2_with (go_at_call 73; ((with_reducible refine (ht w1 x1).mono ?_); rintro e u2 ⟨⟨DA, dn, dc, rfl, -, hB2⟩⟩); (obtain ⟨w2, hw2⟩ : ∃ W, u2.alloc (.cells #[.int .u16 (s).call, .bool (s).hs, .bool (s).ha, .int .u32 (s).seq, .int .u32 (s).ack, .slice DA dn dc] 52) = W := ⟨_, rfl⟩); have V2 : Below u2.heap.size u2 w2 := (by rw [← hw2]; (repeat (first | with_reducible exact Below.refl _ _ | with_reducible refine below_drew ?_ | with_reducible refine below_drewN ?_ _ | with_reducible refine below_alloc ?_ (Nat.le_refl _) _ | with_reducible refine Below.setCell ?_ (by first | exact Nat.le_refl _ | (simp only []; omega)) _ | with_reducible assumption))); (obtain ⟨kS2, hkS2⟩ : ∃ k : Nat, u2.heap.size = k := ⟨_, rfl⟩); have S2 : Blk w2 kS2 #[.int .u16 (s).call, .bool (s).hs, .bool (s).ha, .int .u32 (s).seq, .int .u32 (s).ack, .slice DA dn dc] 52 := (by rw [← hw2]; exact blk_new u2 _ _ _ hkS2); have Sc2 := S2.cell; have T2 := below_then hB2 V2; have P2 := P1.below T2; have Pc2 := P2.cell; clear Pc1; have Z2 := Z1.below T2; have Zc2 := Z2.cell; clear Zc1; have x2 := x1.below T2; have R2 := below_then R1 T2)
  obtain ⟨wf, hwf, Sf⟩ := store2 Z2 (.int .u16 0) (.int .u16 s.call)
  rw [hwf]
  have pf := Sf.blk.cell
  exact bodyPost_ret (by simp [results, Try.results52, go_sem, pf]) rfl ⟨⟨rfl, Sf.bel R2 (by omega)⟩⟩

def picE (E : Int) (m : Msg) : Int := if E = 0 ∧ isEchoM m = false then 12 else E
theorem picmp_any (p : Pkt) (A1 : Option Addr) (n1 c1 : Nat) (A2 : Option Addr) (n2 c2 : Nat) (w : World) (k2 : Bs w A2 n2 c2 p.dat) :
    Calls Try.prog 50 #[(.agg #[.int .u8 (p).tos, .int .u16 (p).id, .bool (p).keep, .int .u8 (p).ttl, .int .u8 (p).proto, .int .u32 (p).src, .int .u32 (p).dst, .slice A1 n1 c1, .slice A2 n2 c2])] w (PtPost w ((icM p).rest / 65536) ((icM p).rest / 65536) (picE (icE p) (icM p))) := by
  have ht := fun W (h : Bs W A2 n2 c2 p.dat) => icmp_any p A1 n1 c1 A2 n2 c2 W h
  have hm := icM_ok p
  have hc := fun B b1 b2 W => isecho_any (icM p) hm B b1 b2 W
  obtain ⟨s, hs⟩ : ∃ s, icM p = s := ⟨_, rfl⟩
  obtain ⟨E, hE⟩ : ∃ s, icE p = s := ⟨_, rfl⟩
  rw [hs, hE] at ht
  rw [hs] at hm hc
  rw [hs, hE]
  obtain ⟨r0, r1⟩ := hm.rest
  obtain ⟨q, hq⟩ : ∃ q, s.rest / 65536 = q := ⟨_, rfl⟩
  have hq0 : 0 ≤ q ∧ q ≤ 65535 := by omega
  have hq1 : q % 65536 = q := by omega
  rw [hq]
  obtain ⟨b, hb⟩ : ∃ b, isEchoM s = b := ⟨_, rfl⟩
  have HE : Hid (picE E s = if E = 0 ∧ b = false then 12 else E) := by unfold Hid picE; rw [hb]
  rw [hb] at hc
  clear hs hE hm hb
  obtain ⟨k, hk⟩ : ∃ k : Nat, w.heap.size = k := ⟨_, rfl⟩
  obtain ⟨w1, hw1⟩ : ∃ W, ((w.alloc (.cells #[.int .u8 (p).tos, .int .u16 (p).id, .bool (p).keep, .int .u8 (p).ttl, .int .u8 (p).proto, .int .u32 (p).src, .int .u32 (p).dst, .slice A1 n1 c1, .slice A2 n2 c2] 26)).alloc (.cells #[.int .u16 0, .int .u16 0] 66)) = W := ⟨_, rfl⟩
  have P1 : Blk w1 k #[.int .u8 (p).tos, .int .u16 (p).id, .bool (p).keep, .int .u8 (p).ttl, .int .u8 (p).proto, .int .u32 (p).src, .int .u32 (p).dst, .slice A1 n1 c1, .slice A2 n2 c2] 26 := by rw [← hw1]; exact ((blk_new _ _ _ k (by simp [hk])).alloc _)
  have Z1 : Blk w1 (k + 1) #[.int .u16 0, .int .u16 0] 66 := by rw [← hw1]; exact (blk_new _ _ _ (k + 1) (by simp [hk]))
  have R1 : Below w.heap.size w w1 := by rw [← hw1]; (repeat (first | with_reducible exact Below.refl _ _ | with_reducible refine below_drew ?_ | with_reducible refine below_drewN ?_ _ | with_reducible refine below_alloc ?_ (Nat.le_refl _) _ | with_reducible refine Below.setCell ?_ (by first | exact Nat.le_refl _ | (simp only []; omega)) _ | with_reducible assumption))
  have Pc1 := P1.cell
  have Zc1 := Z1.cell
  have Pl1 := P1.lt
  have Zl1 := Z1.lt
  have x1 := (k2).below R1
  by_cases h0 : E = 0
  · subst h0
    cases b
    · go_enter Try.func50, Try.ntmps50
      go_wp2_with (first
        | (go_at_call 41; ((with_reducible refine (ht w1 x1).mono ?_); rintro e u2 ⟨⟨DA, dn, dc, rfl, -, hB2⟩⟩); (obtain ⟨w2, hw2⟩ : ∃ W, u2.alloc (.cells #[.int .u8 (s).ty, .int .u8 (s).code, .int .u32 (s).rest, .slice DA dn dc] 49) = W := ⟨_, rfl⟩); have V2 : Below u2.heap.size u2 w2 := (by rw [← hw2]; (repeat (first | with_reducible exact Below.refl _ _ | with_reducible refine below_drew ?_ | with_reducible refine below_drewN ?_ _ | with_reducible refine below_alloc ?_ (Nat.le_refl _) _ | with_reducible refine Below.setCell ?_ (by first | exact Nat.le_refl _ | (simp only []; omega)) _ | with_reducible assumption))); (obtain ⟨kS2, hkS2⟩ : ∃ k : Nat, u2.heap.size = k := ⟨_, rfl⟩); have S2 : Blk w2 kS2 #[.int .u8 (s).ty, .int .u8 (s).code, .int .u32 (s).rest, .slice DA dn dc] 49 := (by rw [← hw2]; exact blk_new u2 _ _ _ hkS2); have Sc2 := S2.cell; have T2 := below_then hB2 V2; have P2 := P1.below T2; have Pc2 := P2.cell; clear Pc1; have Z2 := Z1.below T2; have Zc2 := Z2.cell; clear Zc1; have x2 := x1.below T2; have R2 := below_then R1 T2)
        | (go_at_call 72; ((with_reducible refine (hc DA dn dc w2).mono ?_); rintro e w3 ⟨rfl, hB3⟩); have P3 := P2.below hB3; have Pc3 := P3.cell; clear Pc2; have Z3 := Z2.below hB3; have Zc3 := Z3.cell; clear Zc2; have S3 := S2.below hB3; have Sc3 := S3.cell; clear Sc2; have x3 := x2.below hB3; have R3 := below_then R2 hB3))
      obtain ⟨wf, hwf, Sf⟩ := store2 Z3 (.int .u16 q) (.int .u16 q)
      rw [hwf]
      have pf := Sf.blk.cell
      exact bodyPost_ret (v := .tuple #[.agg #[.int .u16 q, .int .u16 q], .int .i64 12]) (by simp [results, Try.results50, go_sem, pf]) rfl ⟨⟨by rw [HE.out, if_pos (by simp)], Sf.bel R3 (by omega)⟩⟩

    · go_enter Try.func50, Try.ntmps50
      go_wp2_with (first
        | (go_at_call 41; ((with_reducible refine (ht w1 x1).mono ?_); rintro e u2 ⟨⟨DA, dn, dc, rfl, -, hB2⟩⟩); (obtain ⟨w2, hw2⟩ : ∃ W, u2.alloc (.cells #[.int .u8 (s).ty, .int .u8 (s).code, .int .u32 (s).rest, .slice DA dn dc] 49) = W := ⟨_, rfl⟩); have V2 : Below u2.heap.size u2 w2 := (by rw [← hw2]; (repeat (first | with_reducible exact Below.refl _ _ | with_reducible refine below_drew ?_ | with_reducible refine below_drewN ?_ _ | with_reducible refine below_alloc ?_ (Nat.le_refl _) _ | with_reducible refine Below.setCell ?_ (by first | exact Nat.le_refl _ | (simp only []; omega)) _ | with_reducible assumption))); (obtain ⟨kS2, hkS2⟩ : ∃ k : Nat, u2.heap.size = k := ⟨_, rfl⟩); have S2 : Blk w2 kS2 #[.int .u8 (s).ty, .int .u8 (s).code, .int .u32 (s).rest, .slice DA dn dc] 49 := (by rw [← hw2]; exact blk_new u2 _ _ _ hkS2); have Sc2 := S2.cell; have T2 := below_then hB2 V2; have P2 := P1.below T2; have Pc2 := P2.cell; clear Pc1; have Z2 := Z1.below T2; have Zc2 := Z2.cell; clear Zc1; have x2 := x1.below T2; have R2 := below_then R1 T2)
        | (go_at_call 72; ((with_reducible refine (hc DA dn dc w2).mono ?_); rintro e w3 ⟨rfl, hB3⟩); have P3 := P2.below hB3; have Pc3 := P3.cell; clear Pc2; have Z3 := Z2.below hB3; have Zc3 := Z3.cell; clear Zc2; have S3 := S2.below hB3; have Sc3 := S3.cell; clear Sc2; have x3 := x2.below hB3; have R3 := below_then R2 hB3))
      obtain ⟨wf, hwf, Sf⟩ := store2 Z3 (.int .u16 q) (.int .u16 q)
      rw [hwf]
      have pf := Sf.blk.cell
      exact bodyPost_ret (v := .tuple #[.agg #[.int .u16 q, .int .u16 q], .int .i64 0]) (by simp [results, Try.results50, go_sem, pf]) rfl ⟨⟨by rw [HE.out, if_neg (by simp)], Sf.bel R3 (by omega)⟩⟩

  · go_enter Try.func50, Try.ntmps50
    have h0b : (E == 0) = false := by simpa using h0
    go_wp2_with (go_at_call 41; ((with_reducible refine (ht w1 x1).mono ?_); rintro e u2 ⟨⟨DA, dn, dc, rfl, -, hB2⟩⟩); (obtain ⟨w2, hw2⟩ : ∃ W, u2.alloc (.cells #[.int .u8 (s).ty, .int .u8 (s).code, .int .u32 (s).rest, .slice DA dn dc] 49) = W := ⟨_, rfl⟩); have V2 : Below u2.heap.size u2 w2 := (by rw [← hw2]; (repeat (first | with_reducible exact Below.refl _ _ | with_reducible refine below_drew ?_ | with_reducible refine below_drewN ?_ _ | with_reducible refine below_alloc ?_ (Nat.le_refl _) _ | with_reducible refine Below.setCell ?_ (by first | exact Nat.le_refl _ | (simp only []; omega)) _ | with_reducible assumption))); (obtain ⟨kS2, hkS2⟩ : ∃ k : Nat, u2.heap.size = k := ⟨_, rfl⟩); have S2 : Blk w2 kS2 #[.int .u8 (s).ty, .int .u8 (s).code, .int .u32 (s).rest, .slice DA dn dc] 49 := (by rw [← hw2]; exact blk_new u2 _ _ _ hkS2); have Sc2 := S2.cell; have T2 := below_then hB2 V2; have P2 := P1.below T2; have Pc2 := P2.cell; clear Pc1; have Z2 := Z1.below T2; have Zc2 := Z2.cell; clear Zc1; have x2 := x1.below T2; have R2 := below_then R1 T2)
    obtain ⟨wf, hwf, Sf⟩ := store2 Z2 (.int .u16 q) (.int .u16 q)
    rw [hwf]
    have pf := Sf.blk.cell
    exact bodyPost_ret (v := .tuple #[.agg #[.int .u16 q, .int .u16 q], .int .i64 E]) (by simp [results, Try.results50, go_sem, pf]) rfl ⟨⟨by rw [HE.out, if_neg (by simp [h0])], Sf.bel R2 (by omega)⟩⟩
structure TtPost (w : World) (T : Tup) (E : Int) (e : Ending) (w' : World) : Prop where
  out : e = .returned (.tuple #[(.agg #[.int .u8 (T).proto, .int .u32 (T).src, .int .u32 (T).dst, .int .u16 (T).sp, .int .u16 (T).dp]), .int .i64 E]) ∧ Below w.heap.size w w'
def tuP (p : Pkt) (a b E : Int) : Tup := if E ≠ 0 then zT else ⟨p.proto, p.src, p.dst, a, b⟩
theorem tupled_any (p : Pkt) (A1 : Option Addr) (n1 c1 : Nat) (A2 : Option Addr) (n2 c2 : Nat) (a b E : Int) (w : World) :
    Calls Try.prog 28 #[(.agg #[.int .u8 (p).tos, .int .u16 (p).id, .bool (p).keep, .int .u8 (p).ttl, .int .u8 (p).proto, .int .u32 (p).src, .int .u32 (p).dst, .slice A1 n1 c1, .slice A2 n2 c2]), .agg #[.int .u16 a, .int .u16 b], .int .i64 E] w (TtPost w (tuP p a b E) E) := by
  by_cases h0 : E = 0
  · subst h0
    go_enter Try.func28, Try.ntmps28
    go_wp2_with fail
    exact bodyPost_ret (v := .tuple #[(.agg #[.int .u8 ((⟨p.proto, p.src, p.dst, a, b⟩ : Tup)).proto, .int .u32 ((⟨p.proto, p.src, p.dst, a, b⟩ : Tup)).src, .int .u32 ((⟨p.proto, p.src, p.dst, a, b⟩ : Tup)).dst, .int .u16 ((⟨p.proto, p.src, p.dst, a, b⟩ : Tup)).sp, .int .u16 ((⟨p.proto, p.src, p.dst, a, b⟩ : Tup)).dp]), .int .i64 0]) (by simp [results, Try.results28, go_sem]) rfl ⟨⟨rfl, by (repeat (first | with_reducible exact Below.refl _ _ | with_reducible refine below_drew ?_ | with_reducible refine below_drewN ?_ _ | with_reducible refine below_alloc ?_ (Nat.le_refl _) _ | with_reducible refine Below.setCell ?_ (by first | exact Nat.le_refl _ | (simp only []; omega)) _ | with_reducible assumption))⟩⟩
  · have h0b : (E != 0) = true := by simpa using h0
    have hz : tuP p a b E = zT := by unfold tuP; rw [if_pos h0]
    rw [hz]
    clear h0 hz
    go_enter Try.func28, Try.ntmps28
    go_wp2_with fail
    exact bodyPost_ret (v := .tuple #[(.agg #[.int .u8 (zT).proto, .int .u32 (zT).src, .int .u32 (zT).dst, .int .u16 (zT).sp, .int .u16 (zT).dp]), .int .i64 E]) (by simp [results, Try.results28, go_sem, zT]) rfl ⟨⟨rfl, by (repeat (first | with_reducible exact Below.refl _ _ | with_reducible refine below_drew ?_ | with_reducible refine below_drewN ?_ _ | with_reducible refine below_alloc ?_ (Nat.le_refl _) _ | with_reducible refine Below.setCell ?_ (by first | exact Nat.le_refl _ | (simp only []; omega)) _ | with_reducible assumption))⟩⟩
end Go.Proofs.Ythgoffbfgdgkpaa

namespace Go.Proofs.Ythgoffbfgdgkpaa
open Go.RowKit Go.MapKept
set_option linter.unusedVariables false
set_option linter.unusedSimpArgs false
set_option linter.unusedSimpArgs false
set_option maxHeartbeats 8000000
set_option maxRecDepth 100000

def isKn : World → Value → Prop := fun w v => ∃ r, v = .map (some r) ∧ w.heap[r]? = some (.map (kn 4) 4)
theorem st_isKn : ∀ w w' v, isKn w v → Below w.heap.size w w' → isKn w' v := fun w w' v ⟨r, h, k⟩ hb => ⟨r, h, by
  have := hb.block r (by
    rcases Nat.lt_or_ge r w.heap.size with h1 | h1
    · exact h1
    · rw [Array.getElem?_eq_none h1] at k; cases k)
  rw [this]; exact k⟩
theorem ret_isKn {wo : World} : ∃ v, Ending.returned (.map (some wo.heap.size)) = .returned v ∧ isKn (wo.alloc (.map (kn 4) 4)) v ∧ Below wo.heap.size wo (wo.alloc (.map (kn 4) 4)) := ⟨_, rfl, ⟨_, rfl, (heap_alloc wo _).1⟩, (Below.refl _ _).alloc (Nat.le_refl _) _⟩

theorem of_tcp_ (p : Pkt) (A1 : Option Addr) (n1 c1 : Nat) (A2 : Option Addr) (n2 c2 : Nat) (w : World) (k2 : Bs w A2 n2 c2 p.dat) (hpr : p.proto = 6) (a b E : Int)
    (ht : ∀ W, Bs W A2 n2 c2 p.dat → Calls Try.prog 48 #[(.agg #[.int .u8 (p).tos, .int .u16 (p).id, .bool (p).keep, .int .u8 (p).ttl, .int .u8 (p).proto, .int .u32 (p).src, .int .u32 (p).dst, .slice A1 n1 c1, .slice A2 n2 c2])] W (PtPost W a b E)) :
    Calls Try.prog 10 #[(.agg #[.int .u8 (p).tos, .int .u16 (p).id, .bool (p).keep, .int .u8 (p).ttl, .int .u8 (p).proto, .int .u32 (p).src, .int .u32 (p).dst, .slice A1 n1 c1, .slice A2 n2 c2])] w (TtPost w (tuP p a b E) E) := by
  have hrun : ∀ (W : World) (r : Nat), W.heap[r]? = some (.map (kn 4) 4) → (Instr.lookup 63 (.map (some r)) (.int .u8 p.proto) true).run Try.prog W = .ok (.tuple #[.agg #[.func (.func 48) #[] #[], .func (.func 46) #[] #[]], .bool true]) W := fun W r h => by
    have := run_known h p.proto
    rw [show knV p.proto = .agg #[.func (.func 48) #[] #[], .func (.func 46) #[] #[]] from by rw [hpr]; rfl, show knB p.proto = true from by rw [hpr]; rfl] at this
    exact this
  clear hpr
  have htu := fun W => tupled_any p A1 n1 c1 A2 n2 c2 a b E W
  obtain ⟨T, hT'⟩ : ∃ T, tuP p a b E = T := ⟨_, rfl⟩
  rw [hT'] at htu
  rw [hT']
  clear hT'
  obtain ⟨k, hk⟩ : ∃ k : Nat, w.heap.size = k := ⟨_, rfl⟩
  obtain ⟨w1, hw1⟩ : ∃ W, ((w.alloc (.cells #[.int .u8 (p).tos, .int .u16 (p).id, .bool (p).keep, .int .u8 (p).ttl, .int .u8 (p).proto, .int .u32 (p).src, .int .u32 (p).dst, .slice A1 n1 c1, .slice A2 n2 c2] 26)).alloc (.cells #[.int .u8 0, .int .u32 0, .int .u32 0, .int .u16 0, .int .u16 0] 28)) = W := ⟨_, rfl⟩
  have P1 : Blk w1 k #[.int .u8 (p).tos, .int .u16 (p).id, .bool (p).keep, .int .u8 (p).ttl, .int .u8 (p).proto, .int .u32 (p).src, .int .u32 (p).dst, .slice A1 n1 c1, .slice A2 n2 c2] 26 := by rw [← hw1]; exact ((blk_new _ _ _ k (by simp [hk])).alloc _)
  have Z1 : Blk w1 (k + 1) #[.int .u8 0, .int .u32 0, .int .u32 0, .int .u16 0, .int .u16 0] 28 := by rw [← hw1]; exact (blk_new _ _ _ (k + 1) (by simp [hk]))
  have R1 : Below w.heap.size w w1 := by rw [← hw1]; (repeat (first | with_reducible exact Below.refl _ _ | with_reducible refine below_drew ?_ | with_reducible refine below_drewN ?_ _ | with_reducible refine below_alloc ?_ (Nat.le_refl _) _ | with_reducible refine Below.setCell ?_ (by first | exact Nat.le_refl _ | (simp only []; omega)) _ | with_reducible assumption))
  have Pc1 := P1.cell
  have Zc1 := Z1.cell
  have Pl1 := P1.lt
  have Zl1 := Z1.lt
  have x1 := (k2).below R1
  go_enter Try.func10, Try.ntmps10
  go_wp2_with fail
  refine region_z 8 6 (by kernel_rfl) (by kernel_rfl) (fun _ _ _ _ _ h => h) ?_; (iterate 8 (first | (apply ObsK.skip (by rfl)) | (apply ObsK.v (by rfl); (intro wo hT; (repeat (first | (intro v hv; ((obtain ⟨r, rfl, hm⟩ := hv; have hlk := hrun _ r hm))) | (intro _ _ k; try have hcv := cv k))); (have pc := (P1.below hT).cell; have hsz : w1.heap.size ≤ wo.heap.size := hT.size); refine Goes.mk ?_; go_simp; first | exact goes_v | exact goes_b (by assumption) | exact goes_new hsz | (refine goes_enter ?_; first | (go_at_call 27; ((with_reducible refine (known_any wo).mono ?_); rintro e w9 ⟨rfl, rfl⟩); exact ret_isKn)))) | (apply ObsK.b (by rfl); (intro wo hT; (repeat (first | (intro v hv; ((obtain ⟨r, rfl, hm⟩ := hv; have hlk := hrun _ r hm))) | (intro _ _ k; try have hcv := cv k))); (have pc := (P1.below hT).cell; have hsz : w1.heap.size ≤ wo.heap.size := hT.size); refine Goes.mk ?_; go_simp; first | exact goes_v | exact goes_b (by assumption) | exact goes_new hsz | (refine goes_enter ?_; first | (go_at_call 27; ((with_reducible refine (known_any wo).mono ?_); rintro e w9 ⟨rfl, rfl⟩); exact ret_isKn)))) | (apply ObsK.p (q := isKn) (by rfl) st_isKn; (intro wo hT; (repeat (first | (intro v hv; ((obtain ⟨r, rfl, hm⟩ := hv; have hlk := hrun _ r hm))) | (intro _ _ k; try have hcv := cv k))); (have pc := (P1.below hT).cell; have hsz : w1.heap.size ≤ wo.heap.size := hT.size); refine Goes.mk ?_; go_simp; first | exact goes_v | exact goes_b (by assumption) | exact goes_new hsz | (refine goes_enter ?_; first | (go_at_call 27; ((with_reducible refine (known_any wo).mono ?_); rintro e w9 ⟨rfl, rfl⟩); exact ret_isKn)))) | (apply ObsK.p (q := isNew w1.heap.size #[.nilFunc, .nilFunc] 61) (by rfl) st_isNew; (intro wo hT; (repeat (first | (intro v hv; ((obtain ⟨r, rfl, hm⟩ := hv; have hlk := hrun _ r hm))) | (intro _ _ k; try have hcv := cv k))); (have pc := (P1.below hT).cell; have hsz : w1.heap.size ≤ wo.heap.size := hT.size); refine Goes.mk ?_; go_simp; first | exact goes_v | exact goes_b (by assumption) | exact goes_new hsz | (refine goes_enter ?_; first | (go_at_call 27; ((with_reducible refine (known_any wo).mono ?_); rintro e w9 ⟨rfl, rfl⟩); exact ret_isKn)))))); refine ObsK.nil ?_; intro wz hBz; simp only [finOn, List.drop_succ_cons, List.drop_zero, List.drop_nil]
  rintro _ ⟨gS, rfl, hS, S2⟩ _ ⟨m, rfl, -⟩
  go_simp
  obtain ⟨wq, hwq, Sq⟩ := store2 S2 (.func (.func 48) #[] #[]) (.func (.func 46) #[] #[])
  have hBq := Sq.bel hBz hS
  have cS2 := S2.cell
  have hsf : ∀ (W : World) (a : Addr) (fn : Fn) (m : Mode), (store a (.func fn #[] #[]) m).run Try.prog W = stored Try.prog W a (.func fn #[] #[]) m := fun W a fn m => run_store _ W a _ m rfl
  have S2 := Sq.blk
  have Sc2 := S2.cell
  have P2 := P1.below hBq
  have Pc2 := P2.cell
  clear Pc1
  have Z2 := Z1.below hBq
  have Zc2 := Z2.cell
  clear Zc1
  have x2 := x1.below hBq
  have R2 := below_then R1 hBq
  go_wp2_with (first
    | (go_at_call 48; ((with_reducible refine (ht wq x2).mono ?_); rintro e u3 ⟨⟨rfl, hB3⟩⟩); (obtain ⟨w3, hw3⟩ : ∃ W, u3.alloc (.cells #[.int .u16 a, .int .u16 b] 66) = W := ⟨_, rfl⟩); have V3 : Below u3.heap.size u3 w3 := (by rw [← hw3]; (repeat (first | with_reducible exact Below.refl _ _ | with_reducible refine below_drew ?_ | with_reducible refine below_drewN ?_ _ | with_reducible refine below_alloc ?_ (Nat.le_refl _) _ | with_reducible refine Below.setCell ?_ (by first | exact Nat.le_refl _ | (simp only []; omega)) _ | with_reducible assumption))); (obtain ⟨kQ3, hkQ3⟩ : ∃ k : Nat, u3.heap.size = k := ⟨_, rfl⟩); have Q3 : Blk w3 kQ3 #[.int .u16 a, .int .u16 b] 66 := (by rw [← hw3]; exact blk_new u3 _ _ _ hkQ3); have Qc3 := Q3.cell; have T3 := below_then hB3 V3; have P3 := P2.below T3; have Pc3 := P3.cell; clear Pc2; have Z3 := Z2.below T3; have Zc3 := Z3.cell; clear Zc2; have S3 := S2.below T3; have Sc3 := S3.cell; clear Sc2; have x3 := x2.below T3; have R3 := below_then R2 T3)
    | (go_at_call 28; ((with_reducible refine (htu w3).mono ?_); rintro e w4 ⟨⟨rfl, hB4⟩⟩); have P4 := P3.below hB4; have Pc4 := P4.cell; clear Pc3; have Z4 := Z3.below hB4; have Zc4 := Z4.cell; clear Zc3; have S4 := S3.below hB4; have Sc4 := S4.cell; clear Sc3; have Q4 := Q3.below hB4; have Qc4 := Q4.cell; clear Qc3; have x4 := x3.below hB4; have R4 := below_then R3 hB4))
  obtain ⟨wf, hwf, Sf⟩ := store5 Z4 (.int .u8 T.proto) (.int .u32 T.src) (.int .u32 T.dst) (.int .u16 T.sp) (.int .u16 T.dp)
  rw [hwf]
  have pf := Sf.blk.cell
  exact bodyPost_ret (v := .tuple #[(.agg #[.int .u8 (T).proto, .int .u32 (T).src, .int .u32 (T).dst, .int .u16 (T).sp, .int .u16 (T).dp]), .int .i64 E]) (by simp [results, Try.results10, go_sem, pf]) rfl ⟨⟨rfl, Sf.bel R4 (by omega)⟩⟩

theorem of_tcp (p : Pkt) (hp : p.Ok) (A1 : Option Addr) (n1 c1 : Nat) (A2 : Option Addr) (n2 c2 : Nat) (w : World) (k2 : Bs w A2 n2 c2 p.dat) (h7 : n2 ≤ 140737488400000) (hpr : p.proto = 6) :
    Calls Try.prog 10 #[(.agg #[.int .u8 (p).tos, .int .u16 (p).id, .bool (p).keep, .int .u8 (p).ttl, .int .u8 (p).proto, .int .u32 (p).src, .int .u32 (p).dst, .slice A1 n1 c1, .slice A2 n2 c2])] w (TtPost w (tuP p (tcS p).src (tcS p).dst (tcE p)) (tcE p)) :=
  of_tcp_ p A1 n1 c1 A2 n2 c2 w k2 hpr _ _ _ (fun W h => ptcp_any p hp A1 n1 c1 A2 n2 c2 W h h7)
theorem of_udp_ (p : Pkt) (A1 : Option Addr) (n1 c1 : Nat) (A2 : Option Addr) (n2 c2 : Nat) (w : World) (k2 : Bs w A2 n2 c2 p.dat) (hpr : p.proto = 17) (a b E : Int)
    (ht : ∀ W, Bs W A2 n2 c2 p.dat → Calls Try.prog 49 #[(.agg #[.int .u8 (p).tos, .int .u16 (p).id, .bool (p).keep, .int .u8 (p).ttl, .int .u8 (p).proto, .int .u32 (p).src, .int .u32 (p).dst, .slice A1 n1 c1, .slice A2 n2 c2])] W (PtPost W a b E)) :
    Calls Try.prog 10 #[(.agg #[.int .u8 (p).tos, .int .u16 (p).id, .bool (p).keep, .int .u8 (p).ttl, .int .u8 (p).proto, .int .u32 (p).src, .int .u32 (p).dst, .slice A1 n1 c1, .slice A2 n2 c2])] w (TtPost w (tuP p a b E) E) := by
  have hrun : ∀ (W : World) (r : Nat), W.heap[r]? = some (.map (kn 4) 4) → (Instr.lookup 63 (.map (some r)) (.int .u8 p.proto) true).run Try.prog W = .ok (.tuple #[.agg #[.func (.func 49) #[] #[], .func (.func 46) #[] #[]], .bool true]) W := fun W r h => by
    have := run_known h p.proto
    rw [show knV p.proto = .agg #[.func (.func 49) #[] #[], .func (.func 46) #[] #[]] from by rw [hpr]; rfl, show knB p.proto = true from by rw [hpr]; rfl] at this
    exact this
  clear hpr
  have htu := fun W => tupled_any p A1 n1 c1 A2 n2 c2 a b E W
  obtain ⟨T, hT'⟩ : ∃ T, tuP p a b E = T := ⟨_, rfl⟩
  rw [hT'] at htu
  rw [hT']
  clear hT'
  obtain ⟨k, hk⟩ : ∃ k : Nat, w.heap.size = k := ⟨_, rfl⟩
  obtain ⟨w1, hw1⟩ : ∃ W, ((w.alloc (.cells #[.int .u8 (p).tos, .int .u16 (p).id, .bool (p).keep, .int .u8 (p).ttl, .int .u8 (p).proto, .int .u32 (p).src, .int .u32 (p).dst, .slice A1 n1 c1, .slice A2 n2 c2] 26)).alloc (.cells #[.int .u8 0, .int .u32 0, .int .u32 0, .int .u16 0, .int .u16 0] 28)) = W := ⟨_, rfl⟩
  have P1 : Blk w1 k #[.int .u8 (p).tos, .int .u16 (p).id, .bool (p).keep, .int .u8 (p).ttl, .int .u8 (p).proto, .int .u32 (p).src, .int .u32 (p).dst, .slice A1 n1 c1, .slice A2 n2 c2] 26 := by rw [← hw1]; exact ((blk_new _ _ _ k (by simp [hk])).alloc _)
  have Z1 : Blk w1 (k + 1) #[.int .u8 0, .int .u32 0, .int .u32 0, .int .u16 0, .int .u16 0] 28 := by rw [← hw1]; exact (blk_new _ _ _ (k + 1) (by simp [hk]))
  have R1 : Below w.heap.size w w1 := by rw [← hw1]; (repeat (first | with_reducible exact Below.refl _ _ | with_reducible refine below_drew ?_ | with_reducible refine below_drewN ?_ _ | with_reducible refine below_alloc ?_ (Nat.le_refl _) _ | with_reducible refine Below.setCell ?_ (by first | exact Nat.le_refl _ | (simp only []; omega)) _ | with_reducible assumption))
  have Pc1 := P1.cell
  have Zc1 := Z1.cell
  have Pl1 := P1.lt
  have Zl1 := Z1.lt
  have x1 := (k2).below R1
  go_enter Try.func10, Try.ntmps10
  go_wp2_with fail
  refine region_z 8 6 (by kernel_rfl) (by kernel_rfl) (fun _ _ _ _ _ h => h) ?_; (iterate 8 (first | (apply ObsK.skip (by rfl)) | (apply ObsK.v (by rfl); (intro wo hT; (repeat (first | (intro v hv; ((obtain ⟨r, rfl, hm⟩ := hv; have hlk := hrun _ r hm))) | (intro _ _ k; try have hcv := cv k))); (have pc := (P1.below hT).cell; have hsz : w1.heap.size ≤ wo.heap.size := hT.size); refine Goes.mk ?_; go_simp; first | exact goes_v | exact goes_b (by assumption) | exact goes_new hsz | (refine goes_enter ?_; first | (go_at_call 27; ((with_reducible refine (known_any wo).mono ?_); rintro e w9 ⟨rfl, rfl⟩); exact ret_isKn)))) | (apply ObsK.b (by rfl); (intro wo hT; (repeat (first | (intro v hv; ((obtain ⟨r, rfl, hm⟩ := hv; have hlk := hrun _ r hm))) | (intro _ _ k; try have hcv := cv k))); (have pc := (P1.below hT).cell; have hsz : w1.heap.size ≤ wo.heap.size := hT.size); refine Goes.mk ?_; go_simp; first | exact goes_v | exact goes_b (by assumption) | exact goes_new hsz | (refine goes_enter ?_; first | (go_at_call 27; ((with_reducible refine (known_any wo).mono ?_); rintro e w9 ⟨rfl, rfl⟩); exact ret_isKn)))) | (apply ObsK.p (q := isKn) (by rfl) st_isKn; (intro wo hT; (repeat (first | (intro v hv; ((obtain ⟨r, rfl, hm⟩ := hv; have hlk := hrun _ r hm))) | (intro _ _ k; try have hcv := cv k))); (have pc := (P1.below hT).cell; have hsz : w1.heap.size ≤ wo.heap.size := hT.size); refine Goes.mk ?_; go_simp; first | exact goes_v | exact goes_b (by assumption) | exact goes_new hsz | (refine goes_enter ?_; first | (go_at_call 27; ((with_reducible refine (known_any wo).mono ?_); rintro e w9 ⟨rfl, rfl⟩); exact ret_isKn)))) | (apply ObsK.p (q := isNew w1.heap.size #[.nilFunc, .nilFunc] 61) (by rfl) st_isNew; (intro wo hT; (repeat (first | (intro v hv; ((obtain ⟨r, rfl, hm⟩ := hv; have hlk := hrun _ r hm))) | (intro _ _ k; try have hcv := cv k))); (have pc := (P1.below hT).cell; have hsz : w1.heap.size ≤ wo.heap.size := hT.size); refine Goes.mk ?_; go_simp; first | exact goes_v | exact goes_b (by assumption) | exact goes_new hsz | (refine goes_enter ?_; first | (go_at_call 27; ((with_reducible refine (known_any wo).mono ?_); rintro e w9 ⟨rfl, rfl⟩); exact ret_isKn)))))); refine ObsK.nil ?_; intro wz hBz; simp only [finOn, List.drop_succ_cons, List.drop_zero, List.drop_nil]
  rintro _ ⟨gS, rfl, hS, S2⟩ _ ⟨m, rfl, -⟩
  go_simp
  obtain ⟨wq, hwq, Sq⟩ := store2 S2 (.func (.func 49) #[] #[]) (.func (.func 46) #[] #[])
  have hBq := Sq.bel hBz hS
  have cS2 := S2.cell
  have hsf : ∀ (W : World) (a : Addr) (fn : Fn) (m : Mode), (store a (.func fn #[] #[]) m).run Try.prog W = stored Try.prog W a (.func fn #[] #[]) m := fun W a fn m => run_store _ W a _ m rfl
  have S2 := Sq.blk
  have Sc2 := S2.cell
  have P2 := P1.below hBq
  have Pc2 := P2.cell
  clear Pc1
  have Z2 := Z1.below hBq
  have Zc2 := Z2.cell
  clear Zc1
  have x2 := x1.below hBq
  have R2 := below_then R1 hBq
  go_wp2_with (first
    | (go_at_call 49; ((with_reducible refine (ht wq x2).mono ?_); rintro e u3 ⟨⟨rfl, hB3⟩⟩); (obtain ⟨w3, hw3⟩ : ∃ W, u3.alloc (.cells #[.int .u16 a, .int .u16 b] 66) = W := ⟨_, rfl⟩); have V3 : Below u3.heap.size u3 w3 := (by rw [← hw3]; (repeat (first | with_reducible exact Below.refl _ _ | with_reducible refine below_drew ?_ | with_reducible refine below_drewN ?_ _ | with_reducible refine below_alloc ?_ (Nat.le_refl _) _ | with_reducible refine Below.setCell ?_ (by first | exact Nat.le_refl _ | (simp only []; omega)) _ | with_reducible assumption))); (obtain ⟨kQ3, hkQ3⟩ : ∃ k : Nat, u3.heap.size = k := ⟨_, rfl⟩); have Q3 : Blk w3 kQ3 #[.int .u16 a, .int .u16 b] 66 := (by rw [← hw3]; exact blk_new u3 _ _ _ hkQ3); have Qc3 := Q3.cell; have T3 := below_then hB3 V3; have P3 := P2.below T3; have Pc3 := P3.cell; clear Pc2; have Z3 := Z2.below T3; have Zc3 := Z3.cell; clear Zc2; have S3 := S2.below T3; have Sc3 := S3.cell; clear Sc2; have x3 := x2.below T3; have R3 := below_then R2 T3)
    | (go_at_call 28; ((with_reducible refine (htu w3).mono ?_); rintro e w4 ⟨⟨rfl, hB4⟩⟩); have P4 := P3.below hB4; have Pc4 := P4.cell; clear Pc3; have Z4 := Z3.below hB4; have Zc4 := Z4.cell; clear Zc3; have S4 := S3.below hB4; have Sc4 := S4.cell; clear Sc3; have Q4 := Q3.below hB4; have Qc4 := Q4.cell; clear Qc3; have x4 := x3.below hB4; have R4 := below_then R3 hB4))
  obtain ⟨wf, hwf, Sf⟩ := store5 Z4 (.int .u8 T.proto) (.int .u32 T.src) (.int .u32 T.dst) (.int .u16 T.sp) (.int .u16 T.dp)
  rw [hwf]
  have pf := Sf.blk.cell
  exact bodyPost_ret (v := .tuple #[(.agg #[.int .u8 (T).proto, .int .u32 (T).src, .int .u32 (T).dst, .int .u16 (T).sp, .int .u16 (T).dp]), .int .i64 E]) (by simp [results, Try.results10, go_sem, pf]) rfl ⟨⟨rfl, Sf.bel R4 (by omega)⟩⟩

theorem of_udp (p : Pkt) (hp : p.Ok) (A1 : Option Addr) (n1 c1 : Nat) (A2 : Option Addr) (n2 c2 : Nat) (w : World) (k2 : Bs w A2 n2 c2 p.dat) (hpr : p.proto = 17) :
    Calls Try.prog 10 #[(.agg #[.int .u8 (p).tos, .int .u16 (p).id, .bool (p).keep, .int .u8 (p).ttl, .int .u8 (p).proto, .int .u32 (p).src, .int .u32 (p).dst, .slice A1 n1 c1, .slice A2 n2 c2])] w (TtPost w (tuP p (udD p).src (udD p).dst (udE p)) (udE p)) :=
  of_udp_ p A1 n1 c1 A2 n2 c2 w k2 hpr _ _ _ (fun W h => pudp_any p hp A1 n1 c1 A2 n2 c2 W h)
theorem of_icmp_ (p : Pkt) (A1 : Option Addr) (n1 c1 : Nat) (A2 : Option Addr) (n2 c2 : Nat) (w : World) (k2 : Bs w A2 n2 c2 p.dat) (hpr : p.proto = 1) (a b E : Int)
    (ht : ∀ W, Bs W A2 n2 c2 p.dat → Calls Try.prog 50 #[(.agg #[.int .u8 (p).tos, .int .u16 (p).id, .bool (p).keep, .int .u8 (p).ttl, .int .u8 (p).proto, .int .u32 (p).src, .int .u32 (p).dst, .slice A1 n1 c1, .slice A2 n2 c2])] W (PtPost W a b E)) :
    Calls Try.prog 10 #[(.agg #[.int .u8 (p).tos, .int .u16 (p).id, .bool (p).keep, .int .u8 (p).ttl, .int .u8 (p).proto, .int .u32 (p).src, .int .u32 (p).dst, .slice A1 n1 c1, .slice A2 n2 c2])] w (TtPost w (tuP p a b E) E) := by
  have hrun : ∀ (W : World) (r : Nat), W.heap[r]? = some (.map (kn 4) 4) → (Instr.lookup 63 (.map (some r)) (.int .u8 p.proto) true).run Try.prog W = .ok (.tuple #[.agg #[.func (.func 50) #[] #[], .func (.func 51) #[] #[]], .bool true]) W := fun W r h => by
    have := run_known h p.proto
    rw [show knV p.proto = .agg #[.func (.func 50) #[] #[], .func (.func 51) #[] #[]] from by rw [hpr]; rfl, show knB p.proto = true from by rw [hpr]; rfl] at this
    exact this
  clear hpr
  have htu := fun W => tupled_any p A1 n1 c1 A2 n2 c2 a b E W
  obtain ⟨T, hT'⟩ : ∃ T, tuP p a b E = T := ⟨_, rfl⟩
  rw [hT'] at htu
  rw [hT']
  clear hT'
  obtain ⟨k, hk⟩ : ∃ k : Nat, w.heap.size = k := ⟨_, rfl⟩
  obtain ⟨w1, hw1⟩ : ∃ W, ((w.alloc (.cells #[.int .u8 (p).tos, .int .u16 (p).id, .bool (p).keep, .int .u8 (p).ttl, .int .u8 (p).proto, .int .u32 (p).src, .int .u32 (p).dst, .slice A1 n1 c1, .slice A2 n2 c2] 26)).alloc (.cells #[.int .u8 0, .int .u32 0, .int .u32 0, .int .u16 0, .int .u16 0] 28)) = W := ⟨_, rfl⟩
  have P1 : Blk w1 k #[.int .u8 (p).tos, .int .u16 (p).id, .bool (p).keep, .int .u8 (p).ttl, .int .u8 (p).proto, .int .u32 (p).src, .int .u32 (p).dst, .slice A1 n1 c1, .slice A2 n2 c2] 26 := by rw [← hw1]; exact ((blk_new _ _ _ k (by simp [hk])).alloc _)
  have Z1 : Blk w1 (k + 1) #[.int .u8 0, .int .u32 0, .int .u32 0, .int .u16 0, .int .u16 0] 28 := by rw [← hw1]; exact (blk_new _ _ _ (k + 1) (by simp [hk]))
  have R1 : Below w.heap.size w w1 := by rw [← hw1]; (repeat (first | with_reducible exact Below.refl _ _ | with_reducible refine below_drew ?_ | with_reducible refine below_drewN ?_ _ | with_reducible refine below_alloc ?_ (Nat.le_refl _) _ | with_reducible refine Below.setCell ?_ (by first | exact Nat.le_refl _ | (simp only []; omega)) _ | with_reducible assumption))
  have Pc1 := P1.cell
  have Zc1 := Z1.cell
  have Pl1 := P1.lt
  have Zl1 := Z1.lt
  have x1 := (k2).below R1
  go_enter Try.func10, Try.ntmps10
  go_wp2_with fail
  refine region_z 8 6 (by kernel_rfl) (by kernel_rfl) (fun _ _ _ _ _ h => h) ?_; (iterate 8 (first | (apply ObsK.skip (by rfl)) | (apply ObsK.v (by rfl); (intro wo hT; (repeat (first | (intro v hv; ((obtain ⟨r, rfl, hm⟩ := hv; have hlk := hrun _ r hm))) | (intro _ _ k; try have hcv := cv k))); (have pc := (P1.below hT).cell; have hsz : w1.heap.size ≤ wo.heap.size := hT.size); refine Goes.mk ?_; go_simp; first | exact goes_v | exact goes_b (by assumption) | exact goes_new hsz | (refine goes_enter ?_; first | (go_at_call 27; ((with_reducible refine (known_any wo).mono ?_); rintro e w9 ⟨rfl, rfl⟩); exact ret_isKn)))) | (apply ObsK.b (by rfl); (intro wo hT; (repeat (first | (intro v hv; ((obtain ⟨r, rfl, hm⟩ := hv; have hlk := hrun _ r hm))) | (intro _ _ k; try have hcv := cv k))); (have pc := (P1.below hT).cell; have hsz : w1.heap.size ≤ wo.heap.size := hT.size); refine Goes.mk ?_; go_simp; first | exact goes_v | exact goes_b (by assumption) | exact goes_new hsz | (refine goes_enter ?_; first | (go_at_call 27; ((with_reducible refine (known_any wo).mono ?_); rintro e w9 ⟨rfl, rfl⟩); exact ret_isKn)))) | (apply ObsK.p (q := isKn) (by rfl) st_isKn; (intro wo hT; (repeat (first | (intro v hv; ((obtain ⟨r, rfl, hm⟩ := hv; have hlk := hrun _ r hm))) | (intro _ _ k; try have hcv := cv k))); (have pc := (P1.below hT).cell; have hsz : w1.heap.size ≤ wo.heap.size := hT.size); refine Goes.mk ?_; go_simp; first | exact goes_v | exact goes_b (by assumption) | exact goes_new hsz | (refine goes_enter ?_; first | (go_at_call 27; ((with_reducible refine (known_any wo).mono ?_); rintro e w9 ⟨rfl, rfl⟩); exact ret_isKn)))) | (apply ObsK.p (q := isNew w1.heap.size #[.nilFunc, .nilFunc] 61) (by rfl) st_isNew; (intro wo hT; (repeat (first | (intro v hv; ((obtain ⟨r, rfl, hm⟩ := hv; have hlk := hrun _ r hm))) | (intro _ _ k; try have hcv := cv k))); (have pc := (P1.below hT).cell; have hsz : w1.heap.size ≤ wo.heap.size := hT.size); refine Goes.mk ?_; go_simp; first | exact goes_v | exact goes_b (by assumption) | exact goes_new hsz | (refine goes_enter ?_; first | (go_at_call 27; ((with_reducible refine (known_any wo).mono ?_); rintro e w9 ⟨rfl, rfl⟩); exact ret_isKn)))))); refine ObsK.nil ?_; intro wz hBz; simp only [finOn, List.drop_succ_cons, List.drop_zero, List.drop_nil]
  rintro _ ⟨gS, rfl, hS, S2⟩ _ ⟨m, rfl, -⟩
  go_simp
  obtain ⟨wq, hwq, Sq⟩ := store2 S2 (.func (.func 50) #[] #[]) (.func (.func 51) #[] #[])
  have hBq := Sq.bel hBz hS
  have cS2 := S2.cell
  have hsf : ∀ (W : World) (a : Addr) (fn : Fn) (m : Mode), (store a (.func fn #[] #[]) m).run Try.prog W = stored Try.prog W a (.func fn #[] #[]) m := fun W a fn m => run_store _ W a _ m rfl
  have S2 := Sq.blk
  have Sc2 := S2.cell
  have P2 := P1.below hBq
  have Pc2 := P2.cell
  clear Pc1
  have Z2 := Z1.below hBq
  have Zc2 := Z2.cell
  clear Zc1
  have x2 := x1.below hBq
  have R2 := below_then R1 hBq
  go_wp2_with (first
    | (go_at_call 50; ((with_reducible refine (ht wq x2).mono ?_); rintro e u3 ⟨⟨rfl, hB3⟩⟩); (obtain ⟨w3, hw3⟩ : ∃ W, u3.alloc (.cells #[.int .u16 a, .int .u16 b] 66) = W := ⟨_, rfl⟩); have V3 : Below u3.heap.size u3 w3 := (by rw [← hw3]; (repeat (first | with_reducible exact Below.refl _ _ | with_reducible refine below_drew ?_ | with_reducible refine below_drewN ?_ _ | with_reducible refine below_alloc ?_ (Nat.le_refl _) _ | with_reducible refine Below.setCell ?_ (by first | exact Nat.le_refl _ | (simp only []; omega)) _ | with_reducible assumption))); (obtain ⟨kQ3, hkQ3⟩ : ∃ k : Nat, u3.heap.size = k := ⟨_, rfl⟩); have Q3 : Blk w3 kQ3 #[.int .u16 a, .int .u16 b] 66 := (by rw [← hw3]; exact blk_new u3 _ _ _ hkQ3); have Qc3 := Q3.cell; have T3 := below_then hB3 V3; have P3 := P2.below T3; have Pc3 := P3.cell; clear Pc2; have Z3 := Z2.below T3; have Zc3 := Z3.cell; clear Zc2; have S3 := S2.below T3; have Sc3 := S3.cell; clear Sc2; have x3 := x2.below T3; have R3 := below_then R2 T3)
    | (go_at_call 28; ((with_reducible refine (htu w3).mono ?_); rintro e w4 ⟨⟨rfl, hB4⟩⟩); have P4 := P3.below hB4; have Pc4 := P4.cell; clear Pc3; have Z4 := Z3.below hB4; have Zc4 := Z4.cell; clear Zc3; have S4 := S3.below hB4; have Sc4 := S4.cell; clear Sc3; have Q4 := Q3.below hB4; have Qc4 := Q4.cell; clear Qc3; have x4 := x3.below hB4; have R4 := below_then R3 hB4))
  obtain ⟨wf, hwf, Sf⟩ := store5 Z4 (.int .u8 T.proto) (.int .u32 T.src) (.int .u32 T.dst) (.int .u16 T.sp) (.int .u16 T.dp)
  rw [hwf]
  have pf := Sf.blk.cell
  exact bodyPost_ret (v := .tuple #[(.agg #[.int .u8 (T).proto, .int .u32 (T).src, .int .u32 (T).dst, .int .u16 (T).sp, .int .u16 (T).dp]), .int .i64 E]) (by simp [results, Try.results10, go_sem, pf]) rfl ⟨⟨rfl, Sf.bel R4 (by omega)⟩⟩

theorem of_icmp (p : Pkt) (A1 : Option Addr) (n1 c1 : Nat) (A2 : Option Addr) (n2 c2 : Nat) (w : World) (k2 : Bs w A2 n2 c2 p.dat) (hpr : p.proto = 1) :
    Calls Try.prog 10 #[(.agg #[.int .u8 (p).tos, .int .u16 (p).id, .bool (p).keep, .int .u8 (p).ttl, .int .u8 (p).proto, .int .u32 (p).src, .int .u32 (p).dst, .slice A1 n1 c1, .slice A2 n2 c2])] w (TtPost w (tuP p ((icM p).rest / 65536) ((icM p).rest / 65536) (picE (icE p) (icM p))) (picE (icE p) (icM p))) :=
  of_icmp_ p A1 n1 c1 A2 n2 c2 w k2 hpr _ _ _ (fun W h => picmp_any p A1 n1 c1 A2 n2 c2 W h)
theorem of_gre_ (p : Pkt) (A1 : Option Addr) (n1 c1 : Nat) (A2 : Option Addr) (n2 c2 : Nat) (w : World) (k2 : Bs w A2 n2 c2 p.dat) (hpr : p.proto = 47) (a b E : Int)
    (ht : ∀ W, Bs W A2 n2 c2 p.dat → Calls Try.prog 52 #[(.agg #[.int .u8 (p).tos, .int .u16 (p).id, .bool (p).keep, .int .u8 (p).ttl, .int .u8 (p).proto, .int .u32 (p).src, .int .u32 (p).dst, .slice A1 n1 c1, .slice A2 n2 c2])] W (PtPost W a b E)) :
    Calls Try.prog 10 #[(.agg #[.int .u8 (p).tos, .int .u16 (p).id, .bool (p).keep, .int .u8 (p).ttl, .int .u8 (p).proto, .int .u32 (p).src, .int .u32 (p).dst, .slice A1 n1 c1, .slice A2 n2 c2])] w (TtPost w (tuP p a b E) E) := by
  have hrun : ∀ (W : World) (r : Nat), W.heap[r]? = some (.map (kn 4) 4) → (Instr.lookup 63 (.map (some r)) (.int .u8 p.proto) true).run Try.prog W = .ok (.tuple #[.agg #[.func (.func 52) #[] #[], .func (.func 53) #[] #[]], .bool true]) W := fun W r h => by
    have := run_known h p.proto
    rw [show knV p.proto = .agg #[.func (.func 52) #[] #[], .func (.func 53) #[] #[]] from by rw [hpr]; rfl, show knB p.proto = true from by rw [hpr]; rfl] at this
    exact this
  clear hpr
  have htu := fun W => tupled_any p A1 n1 c1 A2 n2 c2 a b E W
  obtain ⟨T, hT'⟩ : ∃ T, tuP p a b E = T := ⟨_, rfl⟩
  rw [hT'] at htu
  rw [hT']
  clear hT'
  obtain ⟨k, hk⟩ : ∃ k : Nat, w.heap.size = k := ⟨_, rfl⟩
  obtain ⟨w1, hw1⟩ : ∃ W, ((w.alloc (.cells #[.int .u8 (p).tos, .int .u16 (p).id, .bool (p).keep, .int .u8 (p).ttl, .int .u8 (p).proto, .int .u32 (p).src, .int .u32 (p).dst, .slice A1 n1 c1, .slice A2 n2 c2] 26)).alloc (.cells #[.int .u8 0, .int .u32 0, .int .u32 0, .int .u16 0, .int .u16 0] 28)) = W := ⟨_, rfl⟩
  have P1 : Blk w1 k #[.int .u8 (p).tos, .int .u16 (p).id, .bool (p).keep, .int .u8 (p).ttl, .int .u8 (p).proto, .int .u32 (p).src, .int .u32 (p).dst, .slice A1 n1 c1, .slice A2 n2 c2] 26 := by rw [← hw1]; exact ((blk_new _ _ _ k (by simp [hk])).alloc _)
  have Z1 : Blk w1 (k + 1) #[.int .u8 0, .int .u32 0, .int .u32 0, .int .u16 0, .int .u16 0] 28 := by rw [← hw1]; exact (blk_new _ _ _ (k + 1) (by simp [hk]))
  have R1 : Below w.heap.size w w1 := by rw [← hw1]; (repeat (first | with_reducible exact Below.refl _ _ | with_reducible refine below_drew ?_ | with_reducible refine below_drewN ?_ _ | with_reducible refine below_alloc ?_ (Nat.le_refl _) _ | with_reducible refine Below.setCell ?_ (by first | exact Nat.le_refl _ | (simp only []; omega)) _ | with_reducible assumption))
  have Pc1 := P1.cell
  have Zc1 := Z1.cell
  have Pl1 := P1.lt
  have Zl1 := Z1.lt
  have x1 := (k2).below R1
  go_enter Try.func10, Try.ntmps10
  go_wp2_with fail
  refine region_z 8 6 (by kernel_rfl) (by kernel_rfl) (fun _ _ _ _ _ h => h) ?_; (iterate 8 (first | (apply ObsK.skip (by rfl)) | (apply ObsK.v (by rfl); (intro wo hT; (repeat (first | (intro v hv; ((obtain ⟨r, rfl, hm⟩ := hv; have hlk := hrun _ r hm))) | (intro _ _ k; try have hcv := cv k))); (have pc := (P1.below hT).cell; have hsz : w1.heap.size ≤ wo.heap.size := hT.size); refine Goes.mk ?_; go_simp; first | exact goes_v | exact goes_b (by assumption) | exact goes_new hsz | (refine goes_enter ?_; first | (go_at_call 27; ((with_reducible refine (known_any wo).mono ?_); rintro e w9 ⟨rfl, rfl⟩); exact ret_isKn)))) | (apply ObsK.b (by rfl); (intro wo hT; (repeat (first | (intro v hv; ((obtain ⟨r, rfl, hm⟩ := hv; have hlk := hrun _ r hm))) | (intro _ _ k; try have hcv := cv k))); (have pc := (P1.below hT).cell; have hsz : w1.heap.size ≤ wo.heap.size := hT.size); refine Goes.mk ?_; go_simp; first | exact goes_v | exact goes_b (by assumption) | exact goes_new hsz | (refine goes_enter ?_; first | (go_at_call 27; ((with_reducible refine (known_any wo).mono ?_); rintro e w9 ⟨rfl, rfl⟩); exact ret_isKn)))) | (apply ObsK.p (q := isKn) (by rfl) st_isKn; (intro wo hT; (repeat (first | (intro v hv; ((obtain ⟨r, rfl, hm⟩ := hv; have hlk := hrun _ r hm))) | (intro _ _ k; try have hcv := cv k))); (have pc := (P1.below hT).cell; have hsz : w1.heap.size ≤ wo.heap.size := hT.size); refine Goes.mk ?_; go_simp; first | exact goes_v | exact goes_b (by assumption) | exact goes_new hsz | (refine goes_enter ?_; first | (go_at_call 27; ((with_reducible refine (known_any wo).mono ?_); rintro e w9 ⟨rfl, rfl⟩); exact ret_isKn)))) | (apply ObsK.p (q := isNew w1.heap.size #[.nilFunc, .nilFunc] 61) (by rfl) st_isNew; (intro wo hT; (repeat (first | (intro v hv; ((obtain ⟨r, rfl, hm⟩ := hv; have hlk := hrun _ r hm))) | (intro _ _ k; try have hcv := cv k))); (have pc := (P1.below hT).cell; have hsz : w1.heap.size ≤ wo.heap.size := hT.size); refine Goes.mk ?_; go_simp; first | exact goes_v | exact goes_b (by assumption) | exact goes_new hsz | (refine goes_enter ?_; first | (go_at_call 27; ((with_reducible refine (known_any wo).mono ?_); rintro e w9 ⟨rfl, rfl⟩); exact ret_isKn)))))); refine ObsK.nil ?_; intro wz hBz; simp only [finOn, List.drop_succ_cons, List.drop_zero, List.drop_nil]
  rintro _ ⟨gS, rfl, hS, S2⟩ _ ⟨m, rfl, -⟩
  go_simp
  obtain ⟨wq, hwq, Sq⟩ := store2 S2 (.func (.func 52) #[] #[]) (.func (.func 53) #[] #[])
  have hBq := Sq.bel hBz hS
  have cS2 := S2.cell
  have hsf : ∀ (W : World) (a : Addr) (fn : Fn) (m : Mode), (store a (.func fn #[] #[]) m).run Try.prog W = stored Try.prog W a (.func fn #[] #[]) m := fun W a fn m => run_store _ W a _ m rfl
  have S2 := Sq.blk
  have Sc2 := S2.cell
  have P2 := P1.below hBq
  have Pc2 := P2.cell
  clear Pc1
  have Z2 := Z1.below hBq
  have Zc2 := Z2.cell
  clear Zc1
  have x2 := x1.below hBq
  have R2 := below_then R1 hBq
  go_wp2_with (first
    | (go_at_call 52; ((with_reducible refine (ht wq x2).mono ?_); rintro e u3 ⟨⟨rfl, hB3⟩⟩); (obtain ⟨w3, hw3⟩ : ∃ W, u3.alloc (.cells #[.int .u16 a, .int .u16 b] 66) = W := ⟨_, rfl⟩); have V3 : Below u3.heap.size u3 w3 := (by rw [← hw3]; (repeat (first | with_reducible exact Below.refl _ _ | with_reducible refine below_drew ?_ | with_reducible refine below_drewN ?_ _ | with_reducible refine below_alloc ?_ (Nat.le_refl _) _ | with_reducible refine Below.setCell ?_ (by first | exact Nat.le_refl _ | (simp only []; omega)) _ | with_reducible assumption))); (obtain ⟨kQ3, hkQ3⟩ : ∃ k : Nat, u3.heap.size = k := ⟨_, rfl⟩); have Q3 : Blk w3 kQ3 #[.int .u16 a, .int .u16 b] 66 := (by rw [← hw3]; exact blk_new u3 _ _ _ hkQ3); have Qc3 := Q3.cell; have T3 := below_then hB3 V3; have P3 := P2.below T3; have Pc3 := P3.cell; clear Pc2; have Z3 := Z2.below T3; have Zc3 := Z3.cell; clear Zc2; have S3 := S2.below T3; have Sc3 := S3.cell; clear Sc2; have x3 := x2.below T3; have R3 := below_then R2 T3)
    | (go_at_call 28; ((with_reducible refine (htu w3).mono ?_); rintro e w4 ⟨⟨rfl, hB4⟩⟩); have P4 := P3.below hB4; have Pc4 := P4.cell; clear Pc3; have Z4 := Z3.below hB4; have Zc4 := Z4.cell; clear Zc3; have S4 := S3.below hB4; have Sc4 := S4.cell; clear Sc3; have Q4 := Q3.below hB4; have Qc4 := Q4.cell; clear Qc3; have x4 := x3.below hB4; have R4 := below_then R3 hB4))
  obtain ⟨wf, hwf, Sf⟩ := store5 Z4 (.int .u8 T.proto) (.int .u32 T.src) (.int .u32 T.dst) (.int .u16 T.sp) (.int .u16 T.dp)
  rw [hwf]
  have pf := Sf.blk.cell
  exact bodyPost_ret (v := .tuple #[(.agg #[.int .u8 (T).proto, .int .u32 (T).src, .int .u32 (T).dst, .int .u16 (T).sp, .int .u16 (T).dp]), .int .i64 E]) (by simp [results, Try.results10, go_sem, pf]) rfl ⟨⟨rfl, Sf.bel R4 (by omega)⟩⟩

theorem of_gre (p : Pkt) (A1 : Option Addr) (n1 c1 : Nat) (A2 : Option Addr) (n2 c2 : Nat) (w : World) (k2 : Bs w A2 n2 c2 p.dat) (hpr : p.proto = 47) :
    Calls Try.prog 10 #[(.agg #[.int .u8 (p).tos, .int .u16 (p).id, .bool (p).keep, .int .u8 (p).ttl, .int .u8 (p).proto, .int .u32 (p).src, .int .u32 (p).dst, .slice A1 n1 c1, .slice A2 n2 c2])] w (TtPost w (tuP p 0 (geF p).call (geE p)) (geE p)) :=
  of_gre_ p A1 n1 c1 A2 n2 c2 w k2 hpr _ _ _ (fun W h => pgre_any p A1 n1 c1 A2 n2 c2 W h)
theorem of_no (p : Pkt) (A1 : Option Addr) (n1 c1 : Nat) (A2 : Option Addr) (n2 c2 : Nat) (w : World) (h6 : p.proto ≠ 6) (h17 : p.proto ≠ 17) (h1 : p.proto ≠ 1) (h47 : p.proto ≠ 47) :
    Calls Try.prog 10 #[(.agg #[.int .u8 (p).tos, .int .u16 (p).id, .bool (p).keep, .int .u8 (p).ttl, .int .u8 (p).proto, .int .u32 (p).src, .int .u32 (p).dst, .slice A1 n1 c1, .slice A2 n2 c2])] w (TtPost w zT 12) := by
  have hrun : ∀ (W : World) (r : Nat), W.heap[r]? = some (.map (kn 4) 4) → (Instr.lookup 63 (.map (some r)) (.int .u8 p.proto) true).run Try.prog W = .ok (.tuple #[.agg #[.nilFunc, .nilFunc], .bool false]) W := fun W r h => by
    have := run_known h p.proto
    rw [show knV p.proto = .agg #[.nilFunc, .nilFunc] from by unfold knV; rw [if_neg h6, if_neg h17, if_neg h1, if_neg h47], show knB p.proto = false from by simp [knB, h6, h17, h1, h47]] at this
    exact this
  clear h6 h17 h1 h47
  obtain ⟨k, hk⟩ : ∃ k : Nat, w.heap.size = k := ⟨_, rfl⟩
  obtain ⟨w1, hw1⟩ : ∃ w1, (w.alloc (.cells #[.int .u8 (p).tos, .int .u16 (p).id, .bool (p).keep, .int .u8 (p).ttl, .int .u8 (p).proto, .int .u32 (p).src, .int .u32 (p).dst, .slice A1 n1 c1, .slice A2 n2 c2] 26)).alloc (.cells #[.int .u8 0, .int .u32 0, .int .u32 0, .int .u16 0, .int .u16 0] 28) = w1 := ⟨_, rfl⟩
  have P1 : Blk w1 k #[.int .u8 (p).tos, .int .u16 (p).id, .bool (p).keep, .int .u8 (p).ttl, .int .u8 (p).proto, .int .u32 (p).src, .int .u32 (p).dst, .slice A1 n1 c1, .slice A2 n2 c2] 26 := by rw [← hw1]; exact (blk_new w _ _ k hk).alloc _
  have Z1 : Blk w1 (k + 1) #[.int .u8 0, .int .u32 0, .int .u32 0, .int .u16 0, .int .u16 0] 28 := by rw [← hw1]; exact blk_new _ _ _ _ (by simp [hk])
  have R1 : Below w.heap.size w w1 := by rw [← hw1]; (repeat (first | with_reducible exact Below.refl _ _ | with_reducible refine below_drew ?_ | with_reducible refine below_drewN ?_ _ | with_reducible refine below_alloc ?_ (Nat.le_refl _) _ | with_reducible refine Below.setCell ?_ (by first | exact Nat.le_refl _ | (simp only []; omega)) _ | with_reducible assumption))
  have Zl1 := Z1.lt
  have Pc1 := P1.cell
  have Zc1 := Z1.cell
  go_enter Try.func10, Try.ntmps10
  go_wp2_with fail
  refine region_z 8 6 (by kernel_rfl) (by kernel_rfl) (fun _ _ _ _ _ h => h) ?_; (iterate 8 (first | (apply ObsK.skip (by rfl)) | (apply ObsK.v (by rfl); (intro wo hT; (repeat (first | (intro v hv; ((obtain ⟨r, rfl, hm⟩ := hv; have hlk := hrun _ r hm))) | (intro _ _ k; try have hcv := cv k))); (have pc := (P1.below hT).cell; have hsz : w1.heap.size ≤ wo.heap.size := hT.size); refine Goes.mk ?_; go_simp; first | exact goes_v | exact goes_b (by assumption) | exact goes_new hsz | (refine goes_enter ?_; first | (go_at_call 27; ((with_reducible refine (known_any wo).mono ?_); rintro e w9 ⟨rfl, rfl⟩); exact ret_isKn)))) | (apply ObsK.b (by rfl); (intro wo hT; (repeat (first | (intro v hv; ((obtain ⟨r, rfl, hm⟩ := hv; have hlk := hrun _ r hm))) | (intro _ _ k; try have hcv := cv k))); (have pc := (P1.below hT).cell; have hsz : w1.heap.size ≤ wo.heap.size := hT.size); refine Goes.mk ?_; go_simp; first | exact goes_v | exact goes_b (by assumption) | exact goes_new hsz | (refine goes_enter ?_; first | (go_at_call 27; ((with_reducible refine (known_any wo).mono ?_); rintro e w9 ⟨rfl, rfl⟩); exact ret_isKn)))) | (apply ObsK.p (q := isKn) (by rfl) st_isKn; (intro wo hT; (repeat (first | (intro v hv; ((obtain ⟨r, rfl, hm⟩ := hv; have hlk := hrun _ r hm))) | (intro _ _ k; try have hcv := cv k))); (have pc := (P1.below hT).cell; have hsz : w1.heap.size ≤ wo.heap.size := hT.size); refine Goes.mk ?_; go_simp; first | exact goes_v | exact goes_b (by assumption) | exact goes_new hsz | (refine goes_enter ?_; first | (go_at_call 27; ((with_reducible refine (known_any wo).mono ?_); rintro e w9 ⟨rfl, rfl⟩); exact ret_isKn)))) | (apply ObsK.p (q := isNew w1.heap.size #[.nilFunc, .nilFunc] 61) (by rfl) st_isNew; (intro wo hT; (repeat (first | (intro v hv; ((obtain ⟨r, rfl, hm⟩ := hv; have hlk := hrun _ r hm))) | (intro _ _ k; try have hcv := cv k))); (have pc := (P1.below hT).cell; have hsz : w1.heap.size ≤ wo.heap.size := hT.size); refine Goes.mk ?_; go_simp; first | exact goes_v | exact goes_b (by assumption) | exact goes_new hsz | (refine goes_enter ?_; first | (go_at_call 27; ((with_reducible refine (known_any wo).mono ?_); rintro e w9 ⟨rfl, rfl⟩); exact ret_isKn)))))); refine ObsK.nil ?_; intro wz hBz; simp only [finOn, List.drop_succ_cons, List.drop_zero, List.drop_nil]
  rintro _ ⟨gS, rfl, hS, S2⟩ _ ⟨m, rfl, -⟩
  go_simp
  obtain ⟨wq, hwq, Sq⟩ := store2 S2 .nilFunc .nilFunc
  have hBq := Sq.bel hBz hS
  have cS2 := S2.cell
  have hsf : ∀ (W : World) (a : Addr) (m : Mode), (store a .nilFunc m).run Try.prog W = stored Try.prog W a .nilFunc m := fun W a m => run_store _ W a _ m rfl
  have Z2 := Z1.below hBq
  have Zc2 := Z2.cell
  have R2 := below_then R1 hBq
  go_wp2_with fail
  obtain ⟨wf, hwf, Sf⟩ := store5 Z2 (.int .u8 0) (.int .u32 0) (.int .u32 0) (.int .u16 0) (.int .u16 0)
  rw [hwf]
  have pf := Sf.blk.cell
  exact bodyPost_ret (v := .tuple #[(.agg #[.int .u8 (zT).proto, .int .u32 (zT).src, .int .u32 (zT).dst, .int .u16 (zT).sp, .int .u16 (zT).dp]), .int .i64 12]) (by simp [results, Try.results10, go_sem, pf, zT]) rfl ⟨⟨rfl, Sf.bel R2 (by omega)⟩⟩
def ofE (p : Pkt) : Int := if p.proto = 6 then tcE p else if p.proto = 17 then udE p else if p.proto = 1 then picE (icE p) (icM p) else if p.proto = 47 then geE p else 12
def ofT (p : Pkt) : Tup := if p.proto = 6 then tuP p (tcS p).src (tcS p).dst (tcE p) else if p.proto = 17 then tuP p (udD p).src (udD p).dst (udE p) else if p.proto = 1 then tuP p ((icM p).rest / 65536) ((icM p).rest / 65536) (picE (icE p) (icM p)) else if p.proto = 47 then tuP p 0 (geF p).call (geE p) else zT
theorem of_any (p : Pkt) (hp : p.Ok) (A1 : Option Addr) (n1 c1 : Nat) (A2 : Option Addr) (n2 c2 : Nat) (w : World) (k2 : Bs w A2 n2 c2 p.dat) (h7 : n2 ≤ 140737488400000) :
    Calls Try.prog 10 #[(.agg #[.int .u8 (p).tos, .int .u16 (p).id, .bool (p).keep, .int .u8 (p).ttl, .int .u8 (p).proto, .int .u32 (p).src, .int .u32 (p).dst, .slice A1 n1 c1, .slice A2 n2 c2])] w (TtPost w (ofT p) (ofE p)) := by
  unfold ofT ofE
  by_cases h6 : p.proto = 6
  · rw [if_pos h6, if_pos h6]; exact of_tcp p hp A1 n1 c1 A2 n2 c2 w k2 h7 h6
  rw [if_neg h6, if_neg h6]
  by_cases h17 : p.proto = 17
  · rw [if_pos h17, if_pos h17]; exact of_udp p hp A1 n1 c1 A2 n2 c2 w k2 h17
  rw [if_neg h17, if_neg h17]
  by_cases h1 : p.proto = 1
  · rw [if_pos h1, if_pos h1]; exact of_icmp p A1 n1 c1 A2 n2 c2 w k2 h1
  rw [if_neg h1, if_neg h1]
  by_cases h47 : p.proto = 47
  · rw [if_pos h47, if_pos h47]; exact of_gre p A1 n1 c1 A2 n2 c2 w k2 h47
  rw [if_neg h47, if_neg h47]
  exact of_no p A1 n1 c1 A2 n2 c2 w h6 h17 h1 h47
end Go.Proofs.Ythgoffbfgdgkpaa

namespace Go.Proofs.Ythgoffbfgdgkpaa
open Go.RowKit
set_option linter.unusedVariables false
set_option linter.unusedSimpArgs false
set_option linter.unusedSimpArgs false
set_option maxHeartbeats 4000000
set_option maxRecDepth 100000

theorem bs00 (W : World) : Bs (W.alloc (.cells #[.int .u8 0, .int .u8 0] 5)) (some ⟨W.heap.size, 0, none⟩) 2 2 [0, 0] := bs_lit (W := W) (e := 5) [0, 0] 2 rfl (by omega)
end Go.Proofs.Ythgoffbfgdgkpaa

namespace Go.Proofs.Ythgoffbfgdgkpaa
open Go.RowKit
set_option linter.unusedVariables false
set_option linter.unusedSimpArgs false
set_option linter.unusedSimpArgs false
set_option maxHeartbeats 4000000
set_option maxRecDepth 100000

end Go.Proofs.Ythgoffbfgdgkpaa

namespace Go.Proofs.Ythgoffbfgdgkpaa
open Go.RowKit
set_option linter.unusedVariables false
set_option linter.unusedSimpArgs false
set_option maxHeartbeats 1000000
def aftY (ops : Array Oper) (l : Nat) : Nat → Nat → Bool
  | 0, _ => false
  | f + 1, j => match ops[j]? with
    | some o => o.after.any fun e => Region.binds .any e && (e.on == l || aftY ops l f e.on)
    | none => false
def lastY (ops : Array Oper) (exs : List Nat) (i : Nat) : Bool := lastX exs i || match exs.getLast? with
  | some l => aftY ops l 40 i
  | none => false
def ObsY (P : Program) (ops : Array Oper) (a0 : Act) (w0 : World) (g : Nat) (J : Nat → World → Prop) (exs : List Nat) (fin : List (Tmp × Kd) → Prop) : Nat → Nat → List (Tmp × Kd) → List Oper → Prop
  | _, _, ks, [] => fin ks
  | i, c, ks, o :: rest => ∃ K t, o.dst = some t ∧ (K.Ok ∧ (lastY ops exs i = true ∨ K.OkX g)) ∧ Ob1X P ops a0 w0 g J c (exs.elem i) ks o K ∧ ObsY P ops a0 w0 g J exs fin (i + 1) (bif exs.elem i then c + 1 else c) ((t, K) :: ks) rest
section
variable {P : Program} {ops : Array Oper} {a0 : Act} {w0 : World} {g : Nat} {J : Nat → World → Prop} {exs : List Nat} {fin : List (Tmp × Kd) → Prop} {i c : Nat} {ks : List (Tmp × Kd)} {rest : List Oper}
  {t : Tmp} {op : Op} {ty : TypeId} {pos : String} {after : Array Edge} {gd : Option (Nat × Bool)}
theorem ObsY.v {x : Value} (hx : exs.elem i = false) (hg : wantK ops ks gd = some true) (ho : ∀ W, w0.grownBy W (some g) → leanOn ks W op.operands.toList (Goes P (.v x) ⟨some t, op, ty, pos, after, gd⟩ W) a0)
    (hr : ObsY P ops a0 w0 g J exs fin (i + 1) c ((t, .v x) :: ks) rest) : ObsY P ops a0 w0 g J exs fin i c ks (⟨some t, op, ty, pos, after, gd⟩ :: rest) :=
  ⟨.v x, t, rfl, ⟨trivial, .inr trivial⟩, .inl ⟨hx, hg, ho⟩, by rw [hx]; exact hr⟩
theorem ObsY.p {q : World → Value → Prop} (hx : exs.elem i = false) (hg : wantK ops ks gd = some true) (hkb : ∀ w w' v, q w v → Below w.heap.size w w' → q w' v) (hk : ∀ w w' v, q w v → w.grownBy w' (some g) → q w' v) (ho : ∀ W, w0.grownBy W (some g) → leanOn ks W op.operands.toList (Goes P (.p q) ⟨some t, op, ty, pos, after, gd⟩ W) a0)
    (hr : ObsY P ops a0 w0 g J exs fin (i + 1) c ((t, .p q) :: ks) rest) : ObsY P ops a0 w0 g J exs fin i c ks (⟨some t, op, ty, pos, after, gd⟩ :: rest) :=
  ⟨.p q, t, rfl, ⟨hkb, .inr hk⟩, .inl ⟨hx, hg, ho⟩, by rw [hx]; exact hr⟩
theorem ObsY.skip (hx : exs.elem i = false) (hg : wantK ops ks gd = some false) (hr : ObsY P ops a0 w0 g J exs fin (i + 1) c ((t, .v undef) :: ks) rest) : ObsY P ops a0 w0 g J exs fin i c ks (⟨some t, op, ty, pos, after, gd⟩ :: rest) :=
  ⟨.v undef, t, rfl, ⟨trivial, .inr trivial⟩, .inr (.inr ⟨hx, hg, rfl⟩), by rw [hx]; exact hr⟩
theorem ObsY.nil (h : fin ks) : ObsY P ops a0 w0 g J exs fin i c ks [] := h
end
theorem ObsY.out {P : Program} {ops : Array Oper} {a0 : Act} {w0 : World} {g : Nat} {J : Nat → World → Prop} {exs : List Nat} {fin : List (Tmp × Kd) → Prop} : ∀ {l : List Oper} {i0 : Nat} {ks : List (Tmp × Kd)}, ObsY P ops a0 w0 g J exs fin i0 (czX exs i0) ks l →
    ∃ Ks : Nat → Kd, ∃ kz : Nat → List (Tmp × Kd), kz 0 = ks ∧ fin (kz l.length) ∧ ∀ i o, l[i]? = some o → ∃ t, o.dst = some t ∧ ((Ks i).Ok ∧ (lastY ops exs (i0 + i) = true ∨ (Ks i).OkX g)) ∧ Ob1X P ops a0 w0 g J (czX exs (i0 + i)) (exs.elem (i0 + i)) (kz i) o (Ks i) ∧ kz (i + 1) = (t, Ks i) :: kz i
  | [], i0, ks, h => ⟨fun _ => .v undef, fun _ => ks, rfl, h, fun i o ho => by simp at ho⟩
  | o :: rest, i0, ks, ⟨K, t, hd, hk, hob, hr⟩ => by
    have hr' : ObsY P ops a0 w0 g J exs fin (i0 + 1) (czX exs (i0 + 1)) ((t, K) :: ks) rest := hr
    obtain ⟨Ks, kz, h0, hf, hall⟩ := ObsY.out hr'
    refine ⟨fun i => match i with | 0 => K | i + 1 => Ks i, fun i => match i with | 0 => ks | i + 1 => kz i, rfl, hf, fun i o' ho' => ?_⟩
    cases i with
    | zero =>
      simp only [List.getElem?_cons_zero, Option.some.injEq] at ho'
      subst ho'
      exact ⟨t, hd, hk, hob, h0⟩
    | succ i =>
      have := hall i o' (by simpa using ho')
      rw [show i0 + 1 + i = i0 + (i + 1) from by omega] at this
      exact this
section
variable {P : Program} {Q : Exit → Act → World → Prop}
end
end Go.Proofs.Ythgoffbfgdgkpaa

namespace Go.Proofs.Ythgoffbfgdgkpaa
open Go.RowKit
set_option linter.unusedVariables false
set_option linter.unusedSimpArgs false
set_option linter.unusedSimpArgs false
set_option maxHeartbeats 4000000
set_option maxRecDepth 100000

def dL (d : Dgm) : List UInt8 := ([] ++ twos [d.src, d.dst, (8 + (d.dat.length : Int)) % 65536, 0]) ++ d.dat
def dZ (p : Pkt) (d : Dgm) : Int := if psum p 17 (dL d) = 0 then 65535 else psum p 17 (dL d)
def dS (p : Pkt) (d : Dgm) : List UInt8 := if d.bare then dL d else put16 (dL d) 6 (dZ p d)
def dbE (p : Pkt) (d : Dgm) : Int := wiE p (8 + d.dat.length)
def dbP (p : Pkt) (d : Dgm) : Pkt := withP p 17 (dS p d)
theorem dL_len (d : Dgm) : (dL d).length = 8 + d.dat.length := by simp [dL, twos, two]; omega
theorem dS_len (p : Pkt) (d : Dgm) : (dS p d).length = 8 + d.dat.length := by
  unfold dS; split
  · exact dL_len d
  · rw [put16_length, dL_len]
end Go.Proofs.Ythgoffbfgdgkpaa

namespace Go.Proofs.Ythgoffbfgdgkpaa
open Go.RowKit
set_option linter.unusedVariables false
set_option linter.unusedSimpArgs false
set_option linter.unusedSimpArgs false
set_option maxHeartbeats 4000000
set_option maxRecDepth 100000

theorem rdbuild_any (p : Pkt) (hp : p.Ok) (X1 : Option Addr) (m1 j1 : Nat) (X2 : Option Addr) (m2 j2 : Nat) (s : Dgm) (hs : s.Ok) (DA : Option Addr) (dn dc : Nat) (w : World) (k1 : Bs w X1 m1 j1 p.opt) (kd : Bs w DA dn dc s.dat) :
    Calls Try.prog 20 #[(.agg #[.int .u8 (p).tos, .int .u16 (p).id, .bool (p).keep, .int .u8 (p).ttl, .int .u8 (p).proto, .int .u32 (p).src, .int .u32 (p).dst, .slice X1 m1 j1, .slice X2 m2 j2]), (.agg #[.int .u16 (s).src, .int .u16 (s).dst, .bool (s).bare, .slice DA dn dc])] w (WiPost w (dbP p s) (dbE p s)) := by
  obtain ⟨⟨a0, a1⟩, ⟨d0, d1⟩⟩ := hs
  have ld := kd.len
  have l1 := k1.len
  have bd := kd.max
  have hsE : dbE p s = wiE p (8 + dn) := by unfold dbE; rw [ld]
  by_cases hbad : 40 < (m1 : Int) ∨ m1 % 4 ≠ 0
  · have HE : Hid (dbE p s = 4) := by unfold Hid; rw [hsE]; exact wiE_4 l1 hbad
    have HP : Hid (dbP p s = zP) := by unfold Hid dbP withP; rw [dS_len, ld, wiE_4 l1 hbad]; rfl
    have hw0 : ∀ W, Bs W X1 m1 j1 p.opt → Calls Try.prog 37 #[(.agg #[.int .u8 (p).tos, .int .u16 (p).id, .bool (p).keep, .int .u8 (p).ttl, .int .u8 (p).proto, .int .u32 (p).src, .int .u32 (p).dst, .slice X1 m1 j1, .slice X2 m2 j2]), .int .u8 17, .slice none 0 0] W (fun e w' => ∃ C1 e1 f1 C2 e2 f2, e = .returned (.tuple #[.agg #[.int .u8 0, .int .u16 0, .bool false, .int .u8 0, .int .u8 0, .int .u32 0, .int .u32 0, .slice C1 e1 f1, .slice C2 e2 f2], .int .i64 4]) ∧ Own w' W.heap.size 5 C1 e1 f1 [] ∧ Own w' W.heap.size 5 C2 e2 f2 [] ∧ Below W.heap.size W w') := fun W kk => by
      have hh := rwith_any p X1 m1 j1 X2 m2 j2 17 none 0 0 [] W kk (Bs.none_ W)
      unfold withP at hh
      rw [wiE_4 l1 hbad, if_neg (by decide)] at hh
      exact hh.mono fun e w' hq => hq.out
    clear hbad hsE l1 hp ld
    obtain ⟨k, hk⟩ : ∃ k : Nat, w.heap.size = k := ⟨_, rfl⟩
    obtain ⟨w1, hw1⟩ : ∃ W, (((w.alloc (.cells #[.int .u8 (p).tos, .int .u16 (p).id, .bool (p).keep, .int .u8 (p).ttl, .int .u8 (p).proto, .int .u32 (p).src, .int .u32 (p).dst, .slice X1 m1 j1, .slice X2 m2 j2] 26)).alloc (.cells #[.int .u16 (s).src, .int .u16 (s).dst, .bool (s).bare, .slice DA dn dc] 45)).alloc (.cells #[.int .u8 0, .int .u16 0, .bool false, .int .u8 0, .int .u8 0, .int .u32 0, .int .u32 0, .slice none 0 0, .slice none 0 0] 26)) = W := ⟨_, rfl⟩
    have P1 : Blk w1 k #[.int .u8 (p).tos, .int .u16 (p).id, .bool (p).keep, .int .u8 (p).ttl, .int .u8 (p).proto, .int .u32 (p).src, .int .u32 (p).dst, .slice X1 m1 j1, .slice X2 m2 j2] 26 := by rw [← hw1]; exact (((blk_new _ _ _ k (by simp [hk])).alloc _).alloc _)
    have S1 : Blk w1 (k + 1) #[.int .u16 (s).src, .int .u16 (s).dst, .bool (s).bare, .slice DA dn dc] 45 := by rw [← hw1]; exact ((blk_new _ _ _ (k + 1) (by simp [hk])).alloc _)
    have Z1 : Blk w1 (k + 1 + 1) #[.int .u8 0, .int .u16 0, .bool false, .int .u8 0, .int .u8 0, .int .u32 0, .int .u32 0, .slice none 0 0, .slice none 0 0] 26 := by rw [← hw1]; exact (blk_new _ _ _ (k + 1 + 1) (by simp [hk]))
    have R1 : Below w.heap.size w w1 := by rw [← hw1]; (repeat (first | with_reducible exact Below.refl _ _ | with_reducible refine below_drew ?_ | with_reducible refine below_drewN ?_ _ | with_reducible refine below_alloc ?_ (Nat.le_refl _) _ | with_reducible refine Below.setCell ?_ (by first | exact Nat.le_refl _ | (simp only []; omega)) _ | with_reducible assumption))
    have Pc1 := P1.cell
    have Sc1 := S1.cell
    have Zc1 := Z1.cell
    have Pl1 := P1.lt
    have Sl1 := S1.lt
    have Zl1 := Z1.lt
    have xx1 := (k1).below R1
    have yy1 := (kd).below R1
    go_enter Try.func20, Try.ntmps20
    go_wp2_with (go_at_call 37; ((with_reducible refine (hw0 w1 xx1).mono ?_); rintro e w2 ⟨C1, e1, f1, C2, e2, f2, rfl, O1, O2, hB2⟩); (obtain ⟨w3, hw3⟩ : ∃ W, w2.alloc (.cells #[.int .u8 0, .int .u16 0, .bool false, .int .u8 0, .int .u8 0, .int .u32 0, .int .u32 0, .slice C1 e1 f1, .slice C2 e2 f2] 26) = W := ⟨_, rfl⟩); have V3 : Below w2.heap.size w2 w3 := (by rw [← hw3]; (repeat (first | with_reducible exact Below.refl _ _ | with_reducible refine below_drew ?_ | with_reducible refine below_drewN ?_ _ | with_reducible refine below_alloc ?_ (Nat.le_refl _) _ | with_reducible refine Below.setCell ?_ (by first | exact Nat.le_refl _ | (simp only []; omega)) _ | with_reducible assumption))); have T3 := below_then hB2 V3; have Q3 : Blk w3 w2.heap.size #[.int .u8 0, .int .u16 0, .bool false, .int .u8 0, .int .u8 0, .int .u32 0, .int .u32 0, .slice C1 e1 f1, .slice C2 e2 f2] 26 := (by rw [← hw3]; exact blk_new w2 _ _ _ rfl); have qc3 := Q3.cell; have P3 := P1.below T3; have pc3 := P3.cell; have Z3 := Z1.below T3; have zc3 := Z3.cell; have S3 := S1.below T3; have sc3 := S3.cell; have R3 := below_then R1 T3)
    obtain ⟨wf, hwf, Sf⟩ := store9 Z3 (.int .u8 0) (.int .u16 0) (.bool false) (.int .u8 0) (.int .u8 0) (.int .u32 0) (.int .u32 0) (.slice none 0 0) (.slice none 0 0)
    rw [hwf]
    have pf := Sf.blk.cell
    exact bodyPost_ret (v := .tuple #[.agg #[.int .u8 0, .int .u16 0, .bool false, .int .u8 0, .int .u8 0, .int .u32 0, .int .u32 0, .slice none 0 0, .slice none 0 0], .int .i64 4]) (by simp [results, Try.results20, go_sem, pf]) rfl (by rw [HE.out, HP.out]; exact wiPost_no (Sf.bel R3 (by omega)))

  have h1 : (m1 : Int) ≤ 40 := by omega
  have h2 : m1 % 4 = 0 := by omega
  have hw0 : ∀ W, Bs W X1 m1 j1 p.opt → Calls Try.prog 37 #[(.agg #[.int .u8 (p).tos, .int .u16 (p).id, .bool (p).keep, .int .u8 (p).ttl, .int .u8 (p).proto, .int .u32 (p).src, .int .u32 (p).dst, .slice X1 m1 j1, .slice X2 m2 j2]), .int .u8 17, .slice none 0 0] W (fun e w' => ∃ C1 e1 f1 C2 e2 f2, e = .returned (.tuple #[.agg #[.int .u8 p.tos, .int .u16 p.id, .bool p.keep, .int .u8 p.ttl, .int .u8 17, .int .u32 p.src, .int .u32 p.dst, .slice C1 e1 f1, .slice C2 e2 f2], .int .i64 0]) ∧ Own w' W.heap.size 5 C1 e1 f1 p.opt ∧ Own w' W.heap.size 5 C2 e2 f2 [] ∧ Below W.heap.size W w') := fun W kk => by
    have hh := rwith_any p X1 m1 j1 X2 m2 j2 17 none 0 0 [] W kk (Bs.none_ W)
    unfold withP at hh
    rw [show ([] : List UInt8).length = 0 from rfl, wiE_0 l1 h1 h2 (by omega), if_pos rfl] at hh
    exact hh.mono fun e w' hq => hq.out
  have ho1 : ∀ w' (W : World) C1 e1 f1, Own w' W.heap.size 5 C1 e1 f1 p.opt → m1 = e1 := fun w' W C1 e1 f1 h => by rw [← h.len]; exact l1.symm
  by_cases h3 : 65535 < 28 + (m1 : Int) + (dn : Int)
  · have HE : Hid (dbE p s = 8) := by unfold Hid; rw [hsE]; exact wiE_8 l1 h1 h2 (by omega)
    have HP : Hid (dbP p s = zP) := by unfold Hid dbP withP; rw [dS_len, ld, wiE_8 l1 h1 h2 (by omega)]; rfl
    clear hbad hsE l1 hp ld
    obtain ⟨k, hk⟩ : ∃ k : Nat, w.heap.size = k := ⟨_, rfl⟩
    obtain ⟨w1, hw1⟩ : ∃ W, (((w.alloc (.cells #[.int .u8 (p).tos, .int .u16 (p).id, .bool (p).keep, .int .u8 (p).ttl, .int .u8 (p).proto, .int .u32 (p).src, .int .u32 (p).dst, .slice X1 m1 j1, .slice X2 m2 j2] 26)).alloc (.cells #[.int .u16 (s).src, .int .u16 (s).dst, .bool (s).bare, .slice DA dn dc] 45)).alloc (.cells #[.int .u8 0, .int .u16 0, .bool false, .int .u8 0, .int .u8 0, .int .u32 0, .int .u32 0, .slice none 0 0, .slice none 0 0] 26)) = W := ⟨_, rfl⟩
    have P1 : Blk w1 k #[.int .u8 (p).tos, .int .u16 (p).id, .bool (p).keep, .int .u8 (p).ttl, .int .u8 (p).proto, .int .u32 (p).src, .int .u32 (p).dst, .slice X1 m1 j1, .slice X2 m2 j2] 26 := by rw [← hw1]; exact (((blk_new _ _ _ k (by simp [hk])).alloc _).alloc _)
    have S1 : Blk w1 (k + 1) #[.int .u16 (s).src, .int .u16 (s).dst, .bool (s).bare, .slice DA dn dc] 45 := by rw [← hw1]; exact ((blk_new _ _ _ (k + 1) (by simp [hk])).alloc _)
    have Z1 : Blk w1 (k + 1 + 1) #[.int .u8 0, .int .u16 0, .bool false, .int .u8 0, .int .u8 0, .int .u32 0, .int .u32 0, .slice none 0 0, .slice none 0 0] 26 := by rw [← hw1]; exact (blk_new _ _ _ (k + 1 + 1) (by simp [hk]))
    have R1 : Below w.heap.size w w1 := by rw [← hw1]; (repeat (first | with_reducible exact Below.refl _ _ | with_reducible refine below_drew ?_ | with_reducible refine below_drewN ?_ _ | with_reducible refine below_alloc ?_ (Nat.le_refl _) _ | with_reducible refine Below.setCell ?_ (by first | exact Nat.le_refl _ | (simp only []; omega)) _ | with_reducible assumption))
    have Pc1 := P1.cell
    have Sc1 := S1.cell
    have Zc1 := Z1.cell
    have Pl1 := P1.lt
    have Sl1 := S1.lt
    have Zl1 := Z1.lt
    have xx1 := (k1).below R1
    have yy1 := (kd).below R1
    go_enter Try.func20, Try.ntmps20
    go_wp2_with (go_at_call 37; ((with_reducible refine (hw0 w1 xx1).mono ?_); rintro e w2 ⟨C1, e1, f1, C2, e2, f2, rfl, O1, O2, hB2⟩); have ue := ho1 _ w1 _ _ _ O1; subst ue; (obtain ⟨w3, hw3⟩ : ∃ W, w2.alloc (.cells #[.int .u8 p.tos, .int .u16 p.id, .bool p.keep, .int .u8 p.ttl, .int .u8 17, .int .u32 p.src, .int .u32 p.dst, .slice C1 m1 f1, .slice C2 e2 f2] 26) = W := ⟨_, rfl⟩); have V3 : Below w2.heap.size w2 w3 := (by rw [← hw3]; (repeat (first | with_reducible exact Below.refl _ _ | with_reducible refine below_drew ?_ | with_reducible refine below_drewN ?_ _ | with_reducible refine below_alloc ?_ (Nat.le_refl _) _ | with_reducible refine Below.setCell ?_ (by first | exact Nat.le_refl _ | (simp only []; omega)) _ | with_reducible assumption))); have T3 := below_then hB2 V3; have Q3 : Blk w3 w2.heap.size #[.int .u8 p.tos, .int .u16 p.id, .bool p.keep, .int .u8 p.ttl, .int .u8 17, .int .u32 p.src, .int .u32 p.dst, .slice C1 m1 f1, .slice C2 e2 f2] 26 := (by rw [← hw3]; exact blk_new w2 _ _ _ rfl); have qc3 := Q3.cell; have P3 := P1.below T3; have pc3 := P3.cell; have Z3 := Z1.below T3; have zc3 := Z3.cell; have S3 := S1.below T3; have sc3 := S3.cell; have R3 := below_then R1 T3)
    obtain ⟨wf, hwf, Sf⟩ := store9 Z3 (.int .u8 0) (.int .u16 0) (.bool false) (.int .u8 0) (.int .u8 0) (.int .u32 0) (.int .u32 0) (.slice none 0 0) (.slice none 0 0)
    rw [hwf]
    have pf := Sf.blk.cell
    exact bodyPost_ret (v := .tuple #[.agg #[.int .u8 0, .int .u16 0, .bool false, .int .u8 0, .int .u8 0, .int .u32 0, .int .u32 0, .slice none 0 0, .slice none 0 0], .int .i64 8]) (by simp [results, Try.results20, go_sem, pf]) rfl (by rw [HE.out, HP.out]; exact wiPost_no (Sf.bel R3 (by omega)))

  have hE0 : wiE p (8 + dn) = 0 := wiE_0 l1 h1 h2 (by omega)
  have HE : Hid (dbE p s = 0) := by unfold Hid; rw [hsE]; exact hE0
  have HP : Hid (dbP p s = { p with proto := 17, dat := dS p s }) := by unfold Hid dbP withP; rw [dS_len, ld, hE0, if_pos rfl]
  obtain ⟨z, hz⟩ : ∃ z : Int, (8 + (dn : Int)) % 65536 = z := ⟨_, rfl⟩
  have z0 : 0 ≤ z := by omega
  have z1 : z ≤ 65535 := by omega
  obtain ⟨y, hy⟩ : ∃ y : Int, 8 + (dn : Int) = y := ⟨_, rfl⟩
  have hw8 : IntKind.i64.wrap (8 + (dn : Int)) = y := by rw [IntKind.wrap_i64]; omega
  have hwy : IntKind.u16.wrap y = z := by rw [IntKind.wrap_u16]; omega
  have HX : Hid ((((([] ++ two s.src) ++ two s.dst) ++ two z) ++ [0, 0]) ++ s.dat = dL s) := by unfold Hid dL; rw [ld, hz]; simp [twos, two]; decide
  have HN : Hid ((dL s).length = 8 + dn) := by unfold Hid; rw [dL_len, ld]
  have HY := Lib.hid hy
  have h3' : 28 + (m1 : Int) + (dn : Int) ≤ 65535 := by omega
  obtain ⟨zz, hzz⟩ : ∃ z, psum p 17 (dL s) = z := ⟨_, rfl⟩
  have zz0 : 0 ≤ zz := by rw [← hzz]; exact csum_lo _
  have zz1 : zz ≤ 65535 := by rw [← hzz]; exact csum_hi _
  have hsum : ∀ W A n c, n ≤ 65535 → Bs W A n c (dL s) → Calls Try.prog 39 #[(.agg #[.int .u8 (p).tos, .int .u16 (p).id, .bool (p).keep, .int .u8 (p).ttl, .int .u8 (p).proto, .int .u32 (p).src, .int .u32 (p).dst, .slice X1 m1 j1, .slice X2 m2 j2]), .int .u8 17, .slice A n c] W fun e w' => e = .returned (.int .u16 zz) ∧ Below W.heap.size W w' := fun W A n c hn bo => by
    have := rssum_any p hp X1 m1 j1 X2 m2 j2 17 (by omega) (by omega) A n c (dL s) W bo (by omega)
    rw [← hzz]
    exact this
  have hw1' : ∀ W A n c, Bs W X1 m1 j1 p.opt → Bs W A n c (dS p s) → Calls Try.prog 37 #[(.agg #[.int .u8 (p).tos, .int .u16 (p).id, .bool (p).keep, .int .u8 (p).ttl, .int .u8 (p).proto, .int .u32 (p).src, .int .u32 (p).dst, .slice X1 m1 j1, .slice X2 m2 j2]), .int .u8 17, .slice A n c] W (fun e w' => ∃ C1 e1 f1 C2 e2 f2, e = .returned (.tuple #[.agg #[.int .u8 p.tos, .int .u16 p.id, .bool p.keep, .int .u8 p.ttl, .int .u8 17, .int .u32 p.src, .int .u32 p.dst, .slice C1 e1 f1, .slice C2 e2 f2], .int .i64 0]) ∧ Own w' W.heap.size 5 C1 e1 f1 p.opt ∧ Own w' W.heap.size 5 C2 e2 f2 (dS p s) ∧ Below W.heap.size W w') := fun W A n c kk ks => by
    have hh := rwith_any p X1 m1 j1 X2 m2 j2 17 A n c (dS p s) W kk ks
    unfold withP at hh
    rw [dS_len, ld, hE0, if_pos rfl] at hh
    exact hh.mono fun e w' hq => hq.out
  clear hbad hsE hp hE0 hz hy h3 l1 ld
  obtain ⟨k, hk⟩ : ∃ k : Nat, w.heap.size = k := ⟨_, rfl⟩
  obtain ⟨w1, hw1⟩ : ∃ W, (((w.alloc (.cells #[.int .u8 (p).tos, .int .u16 (p).id, .bool (p).keep, .int .u8 (p).ttl, .int .u8 (p).proto, .int .u32 (p).src, .int .u32 (p).dst, .slice X1 m1 j1, .slice X2 m2 j2] 26)).alloc (.cells #[.int .u16 (s).src, .int .u16 (s).dst, .bool (s).bare, .slice DA dn dc] 45)).alloc (.cells #[.int .u8 0, .int .u16 0, .bool false, .int .u8 0, .int .u8 0, .int .u32 0, .int .u32 0, .slice none 0 0, .slice none 0 0] 26)) = W := ⟨_, rfl⟩
  have P1 : Blk w1 k #[.int .u8 (p).tos, .int .u16 (p).id, .bool (p).keep, .int .u8 (p).ttl, .int .u8 (p).proto, .int .u32 (p).src, .int .u32 (p).dst, .slice X1 m1 j1, .slice X2 m2 j2] 26 := by rw [← hw1]; exact (((blk_new _ _ _ k (by simp [hk])).alloc _).alloc _)
  have S1 : Blk w1 (k + 1) #[.int .u16 (s).src, .int .u16 (s).dst, .bool (s).bare, .slice DA dn dc] 45 := by rw [← hw1]; exact ((blk_new _ _ _ (k + 1) (by simp [hk])).alloc _)
  have Z1 : Blk w1 (k + 1 + 1) #[.int .u8 0, .int .u16 0, .bool false, .int .u8 0, .int .u8 0, .int .u32 0, .int .u32 0, .slice none 0 0, .slice none 0 0] 26 := by rw [← hw1]; exact (blk_new _ _ _ (k + 1 + 1) (by simp [hk]))
  have R1 : Below w.heap.size w w1 := by rw [← hw1]; (repeat (first | with_reducible exact Below.refl _ _ | with_reducible refine below_drew ?_ | with_reducible refine below_drewN ?_ _ | with_reducible refine below_alloc ?_ (Nat.le_refl _) _ | with_reducible refine Below.setCell ?_ (by first | exact Nat.le_refl _ | (simp only []; omega)) _ | with_reducible assumption))
  have Pc1 := P1.cell
  have Sc1 := S1.cell
  have Zc1 := Z1.cell
  have Pl1 := P1.lt
  have Sl1 := S1.lt
  have Zl1 := Z1.lt
  have xx1 := (k1).below R1
  have yy1 := (kd).below R1
  go_enter Try.func20, Try.ntmps20
  go_wp2_with (go_at_call 37; ((with_reducible refine (hw0 w1 xx1).mono ?_); rintro e w2 ⟨C1, e1, f1, C2, e2, f2, rfl, O1, O2, hB2⟩); have ue := ho1 _ w1 _ _ _ O1; subst ue; (obtain ⟨w3, hw3⟩ : ∃ W, w2.alloc (.cells #[.int .u8 p.tos, .int .u16 p.id, .bool p.keep, .int .u8 p.ttl, .int .u8 17, .int .u32 p.src, .int .u32 p.dst, .slice C1 m1 f1, .slice C2 e2 f2] 26) = W := ⟨_, rfl⟩); have V3 : Below w2.heap.size w2 w3 := (by rw [← hw3]; (repeat (first | with_reducible exact Below.refl _ _ | with_reducible refine below_drew ?_ | with_reducible refine below_drewN ?_ _ | with_reducible refine below_alloc ?_ (Nat.le_refl _) _ | with_reducible refine Below.setCell ?_ (by first | exact Nat.le_refl _ | (simp only []; omega)) _ | with_reducible assumption))); have T3 := below_then hB2 V3; have Q3 : Blk w3 w2.heap.size #[.int .u8 p.tos, .int .u16 p.id, .bool p.keep, .int .u8 p.ttl, .int .u8 17, .int .u32 p.src, .int .u32 p.dst, .slice C1 m1 f1, .slice C2 e2 f2] 26 := (by rw [← hw3]; exact blk_new w2 _ _ _ rfl); have qc3 := Q3.cell; have P3 := P1.below T3; have pc3 := P3.cell; have Z3 := Z1.below T3; have zc3 := Z3.cell; have S3 := S1.below T3; have sc3 := S3.cell; have R3 := below_then R1 T3)
  have xx3 := xx1.below T3
  have yy3 := yy1.below T3
  have hk1 : w.heap.size ≤ k := Nat.le_of_eq hk
  have r3s := R3.size
  clear hw3 hw1 hk hw0
  refine region_txt 8 (by kernel_rfl) (by kernel_rfl) ?_; (iterate 8 (first | (apply ObsK.skip (by rfl)) | (apply ObsK.v (by rfl); (intro wo hT; (repeat (first | (intro v hv; (fail)) | (intro _ _ k; try have hcv := cv k))); (have sc := (S3.below hT).cell; have hsz : w3.heap.size ≤ wo.heap.size := hT.size); refine Goes.mk ?_; first | (exact goes_app _ _ rfl rfl (own_nil _ w3.heap.size _) rfl (by assumption) (by omega) hsz) | (go_simp; first | exact goes_v | exact goes_b (by assumption) | fail | (refine goes_enter ?_; first | (go_at_call 35; ((with_reducible refine (two_any s.src a0 a1 wo).mono ?_); rintro e w9 ⟨A9, c9, rfl, ho9, hB9⟩); exact ret_b ho9.bs hB9) | (go_at_call 35; ((with_reducible refine (two_any s.dst d0 d1 wo).mono ?_); rintro e w9 ⟨A9, c9, rfl, ho9, hB9⟩); exact ret_b ho9.bs hB9))))) | (apply ObsK.b (by rfl); (intro wo hT; (repeat (first | (intro v hv; (fail)) | (intro _ _ k; try have hcv := cv k))); (have sc := (S3.below hT).cell; have hsz : w3.heap.size ≤ wo.heap.size := hT.size); refine Goes.mk ?_; first | (exact goes_app _ _ rfl rfl (own_nil _ w3.heap.size _) rfl (by assumption) (by omega) hsz) | (go_simp; first | exact goes_v | exact goes_b (by assumption) | fail | (refine goes_enter ?_; first | (go_at_call 35; ((with_reducible refine (two_any s.src a0 a1 wo).mono ?_); rintro e w9 ⟨A9, c9, rfl, ho9, hB9⟩); exact ret_b ho9.bs hB9) | (go_at_call 35; ((with_reducible refine (two_any s.dst d0 d1 wo).mono ?_); rintro e w9 ⟨A9, c9, rfl, ho9, hB9⟩); exact ret_b ho9.bs hB9))))) | (apply ObsK.p (q := isW w3.heap.size ([] ++ two s.src)) (by rfl) st_isW; (intro wo hT; (repeat (first | (intro v hv; (fail)) | (intro _ _ k; try have hcv := cv k))); (have sc := (S3.below hT).cell; have hsz : w3.heap.size ≤ wo.heap.size := hT.size); refine Goes.mk ?_; first | (exact goes_app _ _ rfl rfl (own_nil _ w3.heap.size _) rfl (by assumption) (by omega) hsz) | (go_simp; first | exact goes_v | exact goes_b (by assumption) | fail | (refine goes_enter ?_; first | (go_at_call 35; ((with_reducible refine (two_any s.src a0 a1 wo).mono ?_); rintro e w9 ⟨A9, c9, rfl, ho9, hB9⟩); exact ret_b ho9.bs hB9) | (go_at_call 35; ((with_reducible refine (two_any s.dst d0 d1 wo).mono ?_); rintro e w9 ⟨A9, c9, rfl, ho9, hB9⟩); exact ret_b ho9.bs hB9))))))); refine ObsK.nil ?_; intro wz hBz; simp only [finOn, List.drop_succ_cons, List.drop_zero, List.drop_nil]
  rintro A12 c12 k12 v4 ⟨A10, n10, c10, rfl, O10⟩ A9 c9 k9
  go_simp
  have u10 : n10 = 2 := by rw [← O10.len]; rfl
  subst u10
  clear k9
  have z3l := Z3.lt
  rcases Bool.eq_false_or_eq_true s.bare with hb | hb
  · have HS : Hid (dL s = dS p s) := by unfold Hid dS; rw [hb, if_pos rfl]
    clear hsum hzz
    go_wp2_with (first
    | (at_builtin; refine wpList_append_bs (w0 := w3) _ rfl _ _ _ rfl w3.heap.size 5 Try.underlying24 info_u8 A10 2 c10 _ rfl O10 A12 2 c12 (two s.dst) rfl k12 hBz (by omega) (by first | exact Nat.le_refl _ | exact Below.size hBz | omega | (simp <;> omega)) ?_; intro A14 n14 c14 w14 O14' hB14 _ hz14; have u14 : 4 = n14 := (by rw [← O14'.len]; rfl); subst u14; have S14 := S3.below hB14; have sc14 := S14.cell)
    | (go_at_call 35; ((with_reducible refine (two_any z z0 z1 w14).mono ?_); rintro e w16 ⟨A16, c16, rfl, o16, hB16⟩); have O15' := O14'.below hB16; have T16 := below_then hB14 hB16)
    | (at_builtin; refine wpList_append_bs (w0 := w3) _ rfl _ _ _ rfl w3.heap.size 5 Try.underlying24 info_u8 A14 4 c14 _ rfl O15' A16 2 c16 (two z) rfl o16.bs T16 (by omega) (by first | exact Nat.le_refl _ | exact Below.size T16 | omega | (simp <;> omega)) ?_; intro A17 n17 c17 w17 O17 hB17 _ hz17; have u17 : 6 = n17 := (by rw [← O17.len]; rfl); subst u17)
    | (at_builtin; refine wpList_append_bs (w0 := w3) _ rfl _ _ _ rfl w3.heap.size 5 Try.underlying24 info_u8 A17 6 c17 _ rfl (O17.alloc _) (some ⟨_, 0, none⟩) 2 2 _ rfl (bs00 w17) (hB17.alloc hB17.size _) (by omega) (by first | exact Nat.le_refl _ | exact Below.size (hB17.alloc hB17.size _) | omega | (simp <;> omega)) ?_; intro A18 n18 c18 w18 O18 hB18 _ hz18; have u18 : 8 = n18 := (by rw [← O18.len]; rfl); subst u18; have S18 := S3.below hB18; have sc18 := S18.cell; have d18 := yy3.below hB18)
    | (at_builtin; refine wpList_append_bs (w0 := w3) _ rfl _ _ _ rfl w3.heap.size 5 Try.underlying24 info_u8 A18 8 c18 _ rfl O18 DA dn dc _ rfl d18 hB18 (by omega) (by first | exact Nat.le_refl _ | exact Below.size hB18 | omega | (simp <;> omega)) ?_; intro A22 n22 c22 w22 O22 hB22 _ hz22; rw [HX.out] at O22; have u22 : n22 ≤ 65535 := (by have h1 := O22.len; rw [HN.out] at h1; omega); have P22 := P3.below hB22; have pc22 := P22.cell; have S22 := S3.below hB22; have sc22 := S22.cell; have O22b := O22.bs; have xx22 := xx3.below hB22)
    | (go_at_call 37; ((with_reducible refine (hw1' w22 A22 n22 c22 xx22 (HS.out ▸ O22b)).mono ?_); rintro e w27 ⟨D1, g1', h1', D2, g2', h2', rfl, O13, O14, hB27⟩); have T27 := below_then hB22 hB27; have Z27 := Z3.below T27; have zc27 := Z27.cell))
    obtain ⟨wf, hwf, Sf⟩ := store9 Z27 (.int .u8 p.tos) (.int .u16 p.id) (.bool p.keep) (.int .u8 p.ttl) (.int .u8 17) (.int .u32 p.src) (.int .u32 p.dst) (.slice D1 g1' h1') (.slice D2 g2' h2')
    rw [hwf]
    have pf := Sf.blk.cell
    have t26 := hB22.size
    have Of := Sf.own O13 (fun a e => by have := O13.ge a e; omega)
    have Df := Sf.own O14 (fun a e => by have := O14.ge a e; omega)
    exact bodyPost_ret (v := .tuple #[.agg #[.int .u8 p.tos, .int .u16 p.id, .bool p.keep, .int .u8 p.ttl, .int .u8 17, .int .u32 p.src, .int .u32 p.dst, .slice D1 g1' h1', .slice D2 g2' h2'], .int .i64 0]) (by simp [results, Try.results20, go_sem, pf]) rfl (by rw [HE.out, HP.out]; exact ⟨⟨D1, g1', h1', D2, g2', h2', rfl, Of.mono (by omega), Df.mono (by omega), Sf.bel (below_then R3 T27) (by omega)⟩⟩)
  · have hsum2 := fun W A n c hn bo => (hsum W A n c hn bo)
    by_cases hz0 : zz = 0
    · subst hz0
      have HS : Hid (put16 (dL s) 6 65535 = dS p s) := by unfold Hid dS dZ; rw [hb, hzz]; rfl
      clear hzz
      go_wp2_with (first
      | (at_builtin; refine wpList_append_bs (w0 := w3) _ rfl _ _ _ rfl w3.heap.size 5 Try.underlying24 info_u8 A10 2 c10 _ rfl O10 A12 2 c12 (two s.dst) rfl k12 hBz (by omega) (by first | exact Nat.le_refl _ | exact Below.size hBz | omega | (simp <;> omega)) ?_; intro A14 n14 c14 w14 O14' hB14 _ hz14; have u14 : 4 = n14 := (by rw [← O14'.len]; rfl); subst u14; have S14 := S3.below hB14; have sc14 := S14.cell)
      | (go_at_call 35; ((with_reducible refine (two_any z z0 z1 w14).mono ?_); rintro e w16 ⟨A16, c16, rfl, o16, hB16⟩); have O15' := O14'.below hB16; have T16 := below_then hB14 hB16)
      | (at_builtin; refine wpList_append_bs (w0 := w3) _ rfl _ _ _ rfl w3.heap.size 5 Try.underlying24 info_u8 A14 4 c14 _ rfl O15' A16 2 c16 (two z) rfl o16.bs T16 (by omega) (by first | exact Nat.le_refl _ | exact Below.size T16 | omega | (simp <;> omega)) ?_; intro A17 n17 c17 w17 O17 hB17 _ hz17; have u17 : 6 = n17 := (by rw [← O17.len]; rfl); subst u17)
      | (at_builtin; refine wpList_append_bs (w0 := w3) _ rfl _ _ _ rfl w3.heap.size 5 Try.underlying24 info_u8 A17 6 c17 _ rfl (O17.alloc _) (some ⟨_, 0, none⟩) 2 2 _ rfl (bs00 w17) (hB17.alloc hB17.size _) (by omega) (by first | exact Nat.le_refl _ | exact Below.size (hB17.alloc hB17.size _) | omega | (simp <;> omega)) ?_; intro A18 n18 c18 w18 O18 hB18 _ hz18; have u18 : 8 = n18 := (by rw [← O18.len]; rfl); subst u18; have S18 := S3.below hB18; have sc18 := S18.cell; have d18 := yy3.below hB18)
      | (at_builtin; refine wpList_append_bs (w0 := w3) _ rfl _ _ _ rfl w3.heap.size 5 Try.underlying24 info_u8 A18 8 c18 _ rfl O18 DA dn dc _ rfl d18 hB18 (by omega) (by first | exact Nat.le_refl _ | exact Below.size hB18 | omega | (simp <;> omega)) ?_; intro A22 n22 c22 w22 O22 hB22 _ hz22; rw [HX.out] at O22; have u22 : n22 ≤ 65535 := (by have h1 := O22.len; rw [HN.out] at h1; omega); have P22 := P3.below hB22; have pc22 := P22.cell; have S22 := S3.below hB22; have sc22 := S22.cell; have O22b := O22.bs; have xx22 := xx3.below hB22)
      | (go_at_call 39; ((with_reducible refine (hsum2 w22 A22 n22 c22 u22 O22b).mono ?_); rintro e w25 ⟨rfl, hB25⟩); have T25 := below_then hB22 hB25; have O25 := O22b.below hB25)
      | (go_at_call 38; ((with_reducible refine (rput16_any A22 n22 c22 (dL s) 6 65535 (by omega) (by omega) _ O25).mono ?_); rintro e w26 ⟨A26, c26, rfl, O26, hB26⟩); rw [HS.out] at O26; have O26b := O26.bs; have T26 := below_then T25 hB26; have P26 := P3.below T26; have pc26 := P26.cell; have xx26 := xx3.below T26)
      | (go_at_call 37; ((with_reducible refine (hw1' w26 A26 n22 c26 xx26 O26b).mono ?_); rintro e w27 ⟨D1, g1', h1', D2, g2', h2', rfl, O13, O14, hB27⟩); have T27 := below_then T26 hB27; have Z27 := Z3.below T27; have zc27 := Z27.cell))
      obtain ⟨wf, hwf, Sf⟩ := store9 Z27 (.int .u8 p.tos) (.int .u16 p.id) (.bool p.keep) (.int .u8 p.ttl) (.int .u8 17) (.int .u32 p.src) (.int .u32 p.dst) (.slice D1 g1' h1') (.slice D2 g2' h2')
      rw [hwf]
      have pf := Sf.blk.cell
      have t26 := T26.size
      have Of := Sf.own O13 (fun a e => by have := O13.ge a e; omega)
      have Df := Sf.own O14 (fun a e => by have := O14.ge a e; omega)
      exact bodyPost_ret (v := .tuple #[.agg #[.int .u8 p.tos, .int .u16 p.id, .bool p.keep, .int .u8 p.ttl, .int .u8 17, .int .u32 p.src, .int .u32 p.dst, .slice D1 g1' h1', .slice D2 g2' h2'], .int .i64 0]) (by simp [results, Try.results20, go_sem, pf]) rfl (by rw [HE.out, HP.out]; exact ⟨⟨D1, g1', h1', D2, g2', h2', rfl, Of.mono (by omega), Df.mono (by omega), Sf.bel (below_then R3 T27) (by omega)⟩⟩)
    · have HS : Hid (put16 (dL s) 6 zz = dS p s) := by unfold Hid dS dZ; rw [hb, hzz, if_neg hz0]; rfl
      have z0b : (zz == 0) = false := by simpa using hz0
      clear hzz
      go_wp2_with (first
      | (at_builtin; refine wpList_append_bs (w0 := w3) _ rfl _ _ _ rfl w3.heap.size 5 Try.underlying24 info_u8 A10 2 c10 _ rfl O10 A12 2 c12 (two s.dst) rfl k12 hBz (by omega) (by first | exact Nat.le_refl _ | exact Below.size hBz | omega | (simp <;> omega)) ?_; intro A14 n14 c14 w14 O14' hB14 _ hz14; have u14 : 4 = n14 := (by rw [← O14'.len]; rfl); subst u14; have S14 := S3.below hB14; have sc14 := S14.cell)
      | (go_at_call 35; ((with_reducible refine (two_any z z0 z1 w14).mono ?_); rintro e w16 ⟨A16, c16, rfl, o16, hB16⟩); have O15' := O14'.below hB16; have T16 := below_then hB14 hB16)
      | (at_builtin; refine wpList_append_bs (w0 := w3) _ rfl _ _ _ rfl w3.heap.size 5 Try.underlying24 info_u8 A14 4 c14 _ rfl O15' A16 2 c16 (two z) rfl o16.bs T16 (by omega) (by first | exact Nat.le_refl _ | exact Below.size T16 | omega | (simp <;> omega)) ?_; intro A17 n17 c17 w17 O17 hB17 _ hz17; have u17 : 6 = n17 := (by rw [← O17.len]; rfl); subst u17)
      | (at_builtin; refine wpList_append_bs (w0 := w3) _ rfl _ _ _ rfl w3.heap.size 5 Try.underlying24 info_u8 A17 6 c17 _ rfl (O17.alloc _) (some ⟨_, 0, none⟩) 2 2 _ rfl (bs00 w17) (hB17.alloc hB17.size _) (by omega) (by first | exact Nat.le_refl _ | exact Below.size (hB17.alloc hB17.size _) | omega | (simp <;> omega)) ?_; intro A18 n18 c18 w18 O18 hB18 _ hz18; have u18 : 8 = n18 := (by rw [← O18.len]; rfl); subst u18; have S18 := S3.below hB18; have sc18 := S18.cell; have d18 := yy3.below hB18)
      | (at_builtin; refine wpList_append_bs (w0 := w3) _ rfl _ _ _ rfl w3.heap.size 5 Try.underlying24 info_u8 A18 8 c18 _ rfl O18 DA dn dc _ rfl d18 hB18 (by omega) (by first | exact Nat.le_refl _ | exact Below.size hB18 | omega | (simp <;> omega)) ?_; intro A22 n22 c22 w22 O22 hB22 _ hz22; rw [HX.out] at O22; have u22 : n22 ≤ 65535 := (by have h1 := O22.len; rw [HN.out] at h1; omega); have P22 := P3.below hB22; have pc22 := P22.cell; have S22 := S3.below hB22; have sc22 := S22.cell; have O22b := O22.bs; have xx22 := xx3.below hB22)
      | (go_at_call 39; ((with_reducible refine (hsum2 w22 A22 n22 c22 u22 O22b).mono ?_); rintro e w25 ⟨rfl, hB25⟩); have T25 := below_then hB22 hB25; have O25 := O22b.below hB25)
      | (go_at_call 38; ((with_reducible refine (rput16_any A22 n22 c22 (dL s) 6 zz zz0 zz1 _ O25).mono ?_); rintro e w26 ⟨A26, c26, rfl, O26, hB26⟩); rw [HS.out] at O26; have O26b := O26.bs; have T26 := below_then T25 hB26; have P26 := P3.below T26; have pc26 := P26.cell; have xx26 := xx3.below T26)
      | (go_at_call 37; ((with_reducible refine (hw1' w26 A26 n22 c26 xx26 O26b).mono ?_); rintro e w27 ⟨D1, g1', h1', D2, g2', h2', rfl, O13, O14, hB27⟩); have T27 := below_then T26 hB27; have Z27 := Z3.below T27; have zc27 := Z27.cell))
      obtain ⟨wf, hwf, Sf⟩ := store9 Z27 (.int .u8 p.tos) (.int .u16 p.id) (.bool p.keep) (.int .u8 p.ttl) (.int .u8 17) (.int .u32 p.src) (.int .u32 p.dst) (.slice D1 g1' h1') (.slice D2 g2' h2')
      rw [hwf]
      have pf := Sf.blk.cell
      have t26 := T26.size
      have Of := Sf.own O13 (fun a e => by have := O13.ge a e; omega)
      have Df := Sf.own O14 (fun a e => by have := O14.ge a e; omega)
      exact bodyPost_ret (v := .tuple #[.agg #[.int .u8 p.tos, .int .u16 p.id, .bool p.keep, .int .u8 p.ttl, .int .u8 17, .int .u32 p.src, .int .u32 p.dst, .slice D1 g1' h1', .slice D2 g2' h2'], .int .i64 0]) (by simp [results, Try.results20, go_sem, pf]) rfl (by rw [HE.out, HP.out]; exact ⟨⟨D1, g1', h1', D2, g2', h2', rfl, Of.mono (by omega), Df.mono (by omega), Sf.bel (below_then R3 T27) (by omega)⟩⟩)
end Go.Proofs.Ythgoffbfgdgkpaa

namespace Go.Proofs.Ythgoffbfgdgkpaa
open Go.RowKit
set_option linter.unusedVariables false
set_option linter.unusedSimpArgs false
set_option maxHeartbeats 4000000
set_option maxRecDepth 100000

def q05 : Pkt := ⟨0, 0, false, 0, 0, 1, 2, [], []⟩
def d05 : Dgm := ⟨3, 4, false, []⟩
def p05 : Pkt := ⟨0, 0, false, 0, 17, 1, 2, [], dS q05 d05⟩
def t05 : Tup := ⟨17, 1, 2, 3, 4⟩
theorem q05_ok : q05.Ok := ⟨by decide, by decide, by decide, by decide, by decide, by decide⟩
theorem p05_ok : p05.Ok := ⟨by decide, by decide, by decide, by decide, by decide, by decide⟩
theorem t05_ok : t05.Ok := ⟨by decide, by decide, by decide, by decide, by decide⟩
theorem live05_any (w : World) : Calls Try.prog 12 #[] w fun e w' => e = .returned (.bool true) ∧ Below w.heap.size w w' := by
  have cu : ∀ W, Calls Try.prog 20 #[.agg #[.int .u8 0, .int .u16 0, .bool false, .int .u8 0, .int .u8 0, .int .u32 1, .int .u32 2, .slice none 0 0, .slice none 0 0], .agg #[.int .u16 3, .int .u16 4, .bool false, .slice none 0 0]] W fun e w' => ∃ B1 m1 d1 B2 d2, e = .returned (.tuple #[.agg #[.int .u8 0, .int .u16 0, .bool false, .int .u8 0, .int .u8 17, .int .u32 1, .int .u32 2, .slice B1 m1 d1, .slice B2 8 d2], .int .i64 0]) ∧ Bs w' B2 8 d2 p05.dat ∧ Below W.heap.size W w' := fun W => by
    have hh := rdbuild_any q05 q05_ok none 0 0 none 0 0 d05 ⟨by decide, by decide⟩ none 0 0 W (Bs.none_ _) (Bs.none_ _)
    refine hh.mono fun e w' hq => ?_
    obtain ⟨B1, m1, d1, B2, m2, d2, rfl, -, h2, h3⟩ := hq.out
    have e1 : dbP q05 d05 = p05 := by kernel_rfl
    have e2 : dbE q05 d05 = 0 := by kernel_rfl
    rw [e1] at h2 ⊢
    rw [e2]
    have h5 : m2 = 8 := by have h4 := h2.len; rw [show p05.dat = dS q05 d05 from rfl, dS_len] at h4; simpa [d05] using h4.symm
    subst h5
    exact ⟨B1, m1, d1, B2, d2, rfl, h2.bs, h3⟩
  have co : ∀ W B1 m1 d1 B2 d2, Bs W B2 8 d2 p05.dat → Calls Try.prog 10 #[.agg #[.int .u8 0, .int .u16 0, .bool false, .int .u8 0, .int .u8 17, .int .u32 1, .int .u32 2, .slice B1 m1 d1, .slice B2 8 d2]] W fun e w' => e = .returned (.tuple #[.agg #[.int .u8 17, .int .u32 1, .int .u32 2, .int .u16 3, .int .u16 4], .int .i64 0]) ∧ Below W.heap.size W w' := fun W B1 m1 d1 B2 d2 K => by
    have hh := of_any p05 p05_ok B1 m1 d1 B2 8 d2 W K (by omega)
    refine hh.mono fun e w' hq => ?_
    obtain ⟨rfl, h3⟩ := hq.out
    have e1 : ofT p05 = t05 := by kernel_rfl
    have e2 : ofE p05 = 0 := by kernel_rfl
    rw [e1, e2]
    exact ⟨rfl, h3⟩
  have cr : ∀ W, Calls Try.prog 13 #[.agg #[.int .u8 17, .int .u32 1, .int .u32 2, .int .u16 3, .int .u16 4]] W fun e w' => e = .returned (.agg #[.int .u8 17, .int .u32 2, .int .u32 1, .int .u16 4, .int .u16 3]) ∧ Below W.heap.size W w' := fun W => rev_any t05 W
  obtain ⟨h, hh⟩ : ∃ h, hashT t05 = h := ⟨_, rfl⟩
  have hne : (h != 0) = true := by rw [← hh]; kernel_rfl
  have ch : ∀ W, Calls Try.prog 17 #[.agg #[.int .u8 17, .int .u32 1, .int .u32 2, .int .u16 3, .int .u16 4]] W fun e w' => e = .returned (.int .u32 h) ∧ Below W.heap.size W w' := fun W => by rw [← hh]; exact hash_any t05 t05_ok W
  clear hh
  have hfd : ∀ W : World, (Instr.field 28 (.agg #[.int .u8 17, .int .u32 2, .int .u32 1, .int .u16 4, .int .u16 3]) 1).run Try.prog W = .ok (.int .u32 2) W := fun W => rfl
  have R1 := Below.refl w.heap.size w
  obtain ⟨w1, hw1⟩ : ∃ W, w = W := ⟨_, rfl⟩
  rw [hw1] at R1

  subst hw1
  go_enter Try.func12, Try.ntmps12
  go_wp2_with (first
    | (go_at_call 20; ((with_reducible refine (cu w).mono ?_); rintro e u2 ⟨B1, m1, d1, B2, d2, rfl, k9, hB2⟩); (obtain ⟨w2, hw2⟩ : ∃ W, u2.alloc (.cells #[.int .u8 0, .int .u16 0, .bool false, .int .u8 0, .int .u8 17, .int .u32 1, .int .u32 2, .slice B1 m1 d1, .slice B2 8 d2] 26) = W := ⟨_, rfl⟩); have V2 : Below u2.heap.size u2 w2 := (by rw [← hw2]; (repeat (first | with_reducible exact Below.refl _ _ | with_reducible refine below_drew ?_ | with_reducible refine below_drewN ?_ _ | with_reducible refine below_alloc ?_ (Nat.le_refl _) _ | with_reducible refine Below.setCell ?_ (by first | exact Nat.le_refl _ | (simp only []; omega)) _ | with_reducible assumption))); (obtain ⟨kP2, hkP2⟩ : ∃ k : Nat, u2.heap.size = k := ⟨_, rfl⟩); have P2 : Blk w2 kP2 #[.int .u8 0, .int .u16 0, .bool false, .int .u8 0, .int .u8 17, .int .u32 1, .int .u32 2, .slice B1 m1 d1, .slice B2 8 d2] 26 := (by rw [← hw2]; exact blk_new u2 _ _ _ hkP2); have Pc2 := P2.cell; have T2 := below_then hB2 V2; have x2 := (k9).below V2; have R2 := below_then R1 T2)
    | (go_at_call 10; ((with_reducible refine (co w2 B1 m1 d1 B2 d2 x2).mono ?_); rintro e u3 ⟨rfl, hB3⟩); (obtain ⟨w3, hw3⟩ : ∃ W, u3.alloc (.cells #[.int .u8 17, .int .u32 1, .int .u32 2, .int .u16 3, .int .u16 4] 28) = W := ⟨_, rfl⟩); have V3 : Below u3.heap.size u3 w3 := (by rw [← hw3]; (repeat (first | with_reducible exact Below.refl _ _ | with_reducible refine below_drew ?_ | with_reducible refine below_drewN ?_ _ | with_reducible refine below_alloc ?_ (Nat.le_refl _) _ | with_reducible refine Below.setCell ?_ (by first | exact Nat.le_refl _ | (simp only []; omega)) _ | with_reducible assumption))); (obtain ⟨kS3, hkS3⟩ : ∃ k : Nat, u3.heap.size = k := ⟨_, rfl⟩); have S3 : Blk w3 kS3 #[.int .u8 17, .int .u32 1, .int .u32 2, .int .u16 3, .int .u16 4] 28 := (by rw [← hw3]; exact blk_new u3 _ _ _ hkS3); have Sc3 := S3.cell; have T3 := below_then hB3 V3; have P3 := P2.below T3; have Pc3 := P3.cell; clear Pc2; have x3 := x2.below T3; have R3 := below_then R2 T3)
    | (go_at_call 13; ((with_reducible refine (cr w3).mono ?_); rintro e w4 ⟨rfl, hB4⟩); have P4 := P3.below hB4; have Pc4 := P4.cell; clear Pc3; have S4 := S3.below hB4; have Sc4 := S4.cell; clear Sc3; have x4 := x3.below hB4; have R4 := below_then R3 hB4)
    | (go_at_call 17; ((with_reducible refine (ch w4).mono ?_); rintro e w5 ⟨rfl, hB5⟩); have P5 := P4.below hB5; have Pc5 := P5.cell; clear Pc4; have S5 := S4.below hB5; have Sc5 := S5.cell; clear Sc4; have x5 := x4.below hB5; have R5 := below_then R4 hB5))
  go_ret
  exact ⟨rfl, R5⟩
end Go.Proofs.Ythgoffbfgdgkpaa

namespace Go.Proofs.Ythgoffbfgdgkpaa
open Go.RowKit
set_option linter.unusedVariables false
set_option linter.unusedSimpArgs false
set_option maxHeartbeats 8000000
set_option maxRecDepth 100000

theorem opPost_no {w w' : World} {l : List UInt8} (h : optsP l = none) (hB : Below w.heap.size w w') : OpPost w l (.returned (.tuple #[.slice none 0 0, .bool false])) w' :=
  ⟨none, 0, 0, by rw [h]; rfl, (fun os ho => by rw [h] at ho; cases ho), hB⟩
theorem opPost_yes {w w' : World} {l : List UInt8} {os : List Opt} {A : Option Addr} {n c : Nat} (h : optsP l = some os) (hO : OsO w' w.heap.size A n c os) (hB : Below w.heap.size w w') : OpPost w l (.returned (.tuple #[.slice A n c, .bool true])) w' :=
  ⟨A, n, c, by rw [h]; rfl, (fun os' ho => by rw [h] at ho; injection ho with ho; subst ho; exact ⟨hO, by have := optsP_len h; have := hO.len; omega⟩), hB⟩
theorem roptsP_any (A : Option Addr) (n c : Nat) (l : List UInt8) (w : World) (hb : Bs w A n c l) (hn : n ≤ 40) : Calls Try.prog 54 #[.slice A n c] w (OpPost w l) := by
  have HL := Lib.hid hb.len
  have hcap := hb.cap
  obtain ⟨i8, hi8, -, hs8, -⟩ := info_parts info_u8
  go_enter Try.func54, Try.ntmps54
  go_wp2_with fail
  go_loopw [4, 5] (fun out i wr => ∃ (t : Nat) (os : List Opt) (m : Nat) (A' : Option Addr) (c' : Nat), t ≤ n ∧ m ≤ t ∧ i = .int .i64 (t : Int) ∧ out = .slice A' m c' ∧ OsO wr w.heap.size A' m c' os ∧ Below w.heap.size w wr ∧ Hid (optsAt l t os)) (fun _ i _ => n - (intOf i).toNat)
  case atStart => exact ⟨0, [], 0, none, 0, by omega, by omega, rfl, rfl, osO_nil _ _, Below.refl _ _, optsAt_0 l⟩
  case round =>
    obtain ⟨t, os, m, A', c', ht, hm, rfl, rfl, Ok, Bk, hat⟩ := hrel
    by_cases hlt : t < n
    · have hti : (t : Int) < n := by omega
      obtain ⟨b, off, rfl, hc⟩ := (hb.below Bk).rd (by omega)
      have g0 := hc t hlt
      have HC := Lib.hid hc
      obtain ⟨xs, hxs, hj⟩ := Ok.own
      have Hj := Lib.hid hj
      have bks := Bk.size
      obtain ⟨ii, hi, hz', hs', hb'⟩ := info_parts info_opt
      clear hc hj
      rcases nx_ways l t (by rw [HL.out]; exact hlt) with ⟨q0, hnx⟩ | ⟨q0, q1, hnx⟩ | ⟨q0, q1, q2, hnx⟩ | ⟨q0, q1, q2, q3, q4, hnx⟩
      · have hz0 : bt l t = 0 := by simpa using q0
        rw [hz0] at g0
        have HN := Lib.hid hnx
        clear q0 hnx hz0
        go_wp2_with fail
        go_loopw [5] (fun i wr' => ∃ j : Nat, t ≤ j ∧ j ≤ n ∧ i = .int .i64 (j : Int) ∧ wr' = wr ∧ Hid (∀ q, t ≤ q → q < j → bt l q = 0)) (fun i _ => n - (intOf i).toNat)
        case atStart => exact ⟨t, by omega, by omega, rfl, rfl, fun q h1 h2 => by omega⟩
        case round =>
          obtain ⟨j, hj1, hj2, rfl, rfl, Gj⟩ := hrel
          by_cases hlj : j < n
          · have hji : (j : Int) < n := by omega
            have gj := HC.out j hlj
            obtain ⟨x, hx⟩ : ∃ x, bt l j = x := ⟨_, rfl⟩
            rw [hx] at gj
            have HX := Lib.hid hx
            clear hx
            by_cases hq : x = 0
            · subst hq
              go_wp2_with fail
              exact ⟨⟨j + 1, by omega, by omega, by go_num, trivial, fun q h1 h2 => by
                by_cases e : q = j
                · rw [e]; exact HX.out
                · exact Gj.out q h1 (by omega)⟩, by simp [intOf]; omega⟩
            · have hq2 : (x != 0) = true := by simpa using hq
              have HO : Hid (optsP l = none) := by
                refine optsAt_none hat.out ?_
                rw [HN.out, if_neg]
                have := allZ_at (l := l.drop t) (j := j - t) (by rw [List.length_drop, HL.out]; omega) (by rw [bt_drop, show t + (j - t) = j from by omega, HX.out]; exact hq)
                rw [this]; simp
              go_wp2_with fail
              refine bodyPost_ret (v := .tuple #[.slice none 0 0, .bool false]) (by simp [results, Try.results54, go_sem]) rfl ?_
              exact opPost_no HO.out Bk
          · obtain rfl : j = n := by omega
            have HO : Hid (optsP l = some os) := by
              refine optsAt_end hat.out ?_
              rw [HN.out, if_pos]
              exact allZ_all (fun q hq => by rw [List.length_drop, HL.out] at hq; rw [bt_drop]; exact Gj.out _ (by omega) (by omega))
            go_wp2_with fail
            refine bodyPost_ret (v := .tuple #[.slice A' m c', .bool true]) (by simp [results, Try.results54, go_sem]) rfl ?_
            exact opPost_yes HO.out Ok Bk
      · have hz0 : bt l t = 1 := by simpa using q1
        rw [hz0] at g0
        have HS : Hid (optsAt l (t + 1) (os ++ [⟨1, []⟩])) := optsAt_some hat.out hnx
        clear q0 q1 hnx hz0
        go_wp2_with (at_builtin; refine wpList_appG (w0 := w) _ rfl _ _ _ rfl w.heap.size 97 ii (.agg #[.int .u8 0, .slice none 0 0]) 2 32 Try.underlying40 hi hz' hs' hb' rfl (by omega) (by omega) A' m c' xs rfl (hxs.alloc _) ⟨wr.heap.size, 0, none⟩ 1 1 [.int .u8 1, .slice none 0 0] rfl rfl (new2 _ _ _ _) (by intro u h; simp at h; rcases h with rfl | rfl <;> rfl) (below_alloc Bk (by omega) _) (by omega) (by simp; omega) ?_; intro A5 c5 w5 O5 hB5 hG5 hz5)
        have hx2 := hxs.alloc (.cells #[.int .u8 1, .slice none 0 0] 97)
        have OO := (Ok.below ((Below.refl _ wr).alloc (Nat.le_refl _) (.cells #[.int .u8 1, .slice none 0 0] 97))).snoc hx2 (fun j hj => by obtain ⟨a1, B', m', d', a2, a3⟩ := Hj.out j hj; exact ⟨a1, B', m', d', a2, a3.alloc _⟩) hG5 ⟨1, []⟩ (own_nil _ _ _) O5
        exact ⟨⟨t + 1, os ++ [⟨1, []⟩], m + 1, A5, c5, by omega, by omega, by go_num, rfl, OO, hB5, HS⟩, by simp [intOf]; omega⟩
      · have HO := Lib.hid (optsAt_none hat.out hnx)
        obtain ⟨k0, hk0⟩ : ∃ k0, bt l t = k0 := ⟨_, rfl⟩
        rw [hk0] at g0 q0 q1
        have e0 : (k0 == 0) = false := q0
        have e1 : (k0 == 1) = false := q1
        obtain ⟨t1, ht1⟩ : ∃ t1, t + 1 = t1 := ⟨_, rfl⟩
        have ht1i : (t : Int) + 1 = (t1 : Int) := by omega
        rw [ht1, HL.out, ht1i] at q2
        clear hnx hk0 q0 q1
        rcases q2 with h1 | ⟨h1, h2⟩
        · have h1' : (t1 : Int) ≥ n := h1
          clear ht1
          go_wp2_with fail
          refine bodyPost_ret (v := .tuple #[.slice none 0 0, .bool false]) (by simp [results, Try.results54, go_sem]) rfl ?_
          exact opPost_no HO.out Bk
        · have g1 := HC.out t1 (by omega)
          obtain ⟨k1, hk1⟩ : ∃ k1, bt l t1 = k1 := ⟨_, rfl⟩
          have b1 := bt_lo l t1
          have b1' := bt_hi l t1
          rw [hk1] at g1 h2 b1 b1'
          have h1' : ¬ (n : Int) ≤ t1 := by omega
          have h34 : IntKind.i64.wrap k1 = k1 := wrap_i64 b1 b1'
          obtain ⟨te, hte⟩ : ∃ te : Nat, (t : Int) + k1 = te := ⟨((t : Int) + k1).toNat, by omega⟩
          rw [hte] at h2
          have h6 : k1 < 2 ∨ (¬ k1 < 2 ∧ (n : Int) < te) := by omega
          clear ht1 hk1 h2
          rcases h6 with h6 | ⟨h6, h7⟩
          · go_wp2_with fail
            refine bodyPost_ret (v := .tuple #[.slice none 0 0, .bool false]) (by simp [results, Try.results54, go_sem]) rfl ?_
            exact opPost_no HO.out Bk
          · go_wp2_with fail
            refine bodyPost_ret (v := .tuple #[.slice none 0 0, .bool false]) (by simp [results, Try.results54, go_sem]) rfl ?_
            exact opPost_no HO.out Bk
      · obtain ⟨k0, hk0⟩ : ∃ k0, bt l t = k0 := ⟨_, rfl⟩
        obtain ⟨t1, ht1⟩ : ∃ t1, t + 1 = t1 := ⟨_, rfl⟩
        have ht1i : (t : Int) + 1 = (t1 : Int) := by omega
        rw [HL.out, ht1i] at q2
        rw [ht1] at q3 q4 hnx
        obtain ⟨n1, hk1⟩ : ∃ n1 : Nat, bt l t1 = (n1 : Int) := ⟨(bt l t1).toNat, by omega⟩
        have g1 := HC.out t1 (by omega)
        have b0 := bt_lo l t
        have b0' := bt_hi l t
        have b1' := bt_hi l t1
        rw [hk0] at g0 q0 q1 hnx b0 b0'
        rw [hk1] at g1 q3 q4 hnx b1'
        rw [HL.out] at q4
        simp only [Int.toNat_natCast] at hnx
        have e0 : (k0 == 0) = false := q0
        have e1 : (k0 == 1) = false := q1
        have h1' : ¬ (n : Int) ≤ t1 := by omega
        have h34 : IntKind.i64.wrap (n1 : Int) = n1 := wrap_i64 (by omega) b1'
        obtain ⟨te, hte⟩ : ∃ te : Nat, (t : Int) + (n1 : Int) = te := ⟨t + n1, by omega⟩
        obtain ⟨t2, ht2⟩ : ∃ t2 : Nat, (t : Int) + 2 = t2 := ⟨t + 2, by omega⟩
        have h6 : ¬ (n1 : Int) < 2 := by omega
        have h7 : ¬ (n : Int) < te := by omega
        have hte2 : t2 ≤ te ∧ te ≤ n ∧ t < te := by omega
        have hte3 : te = t + n1 ∧ t2 = t + 2 := by omega
        have HS : Hid (optsAt l te (os ++ [⟨k0, (l.take te).drop t2⟩])) := by
          have := optsAt_some hat.out hnx
          rw [hte3.1, hte3.2]
          rw [List.take_drop, List.drop_drop] at this
          exact this
        have hcut : ∀ W, (Instr.slice 24 (.slice (some ⟨b, off, none⟩) n c) (some (.int .i64 (t2 : Int))) (some (.int .i64 (te : Int))) none).run Try.prog W = _ := fun W => cut_lh Try.underlying24 hi8 hs8 (some ⟨b, off, none⟩) n c .i64 .i64 (t2 : Int) (te : Int) (by omega) (by omega) (by omega) W
        obtain ⟨A2, n2, c2, eA, en, ec, hbD⟩ := hb.cutE (lo := t2) (hi := te) (by omega) (by omega)
        simp only [Int.toNat_natCast, eA, en, ec] at hcut
        obtain ⟨d, hd⟩ : ∃ d, (l.take te).drop t2 = d := ⟨_, rfl⟩
        rw [hd] at hbD HS
        have n240 : n2 ≤ 40 := by omega
        have HT := Lib.hid hte2
        clear hnx hk0 hk1 q0 q1 q2 q3 q4 ht1 hte3 hte2 eA en ec hd
        go_wp2_with (first
          | (at_builtin; refine wpList_append_bs (w0 := wr) _ rfl _ _ _ rfl wr.heap.size 5 Try.underlying24 info_u8 (some ⟨_, 0, none⟩) 0 0 [] rfl (own_litk _ _ (by simp) wr.heap.size 5 [] 0 rfl (by omega) (by omega)) A2 n2 c2 d rfl ((hbD.below Bk).alloc _) (by (repeat (first | with_reducible exact Below.refl _ _ | with_reducible refine below_drew ?_ | with_reducible refine below_drewN ?_ _ | with_reducible refine below_alloc ?_ (Nat.le_refl _) _ | with_reducible refine Below.setCell ?_ (by first | exact Nat.le_refl _ | (simp only []; omega)) _ | with_reducible assumption))) (by omega) (by first | exact Nat.le_refl _ | exact Below.size (by (repeat (first | with_reducible exact Below.refl _ _ | with_reducible refine below_drew ?_ | with_reducible refine below_drewN ?_ _ | with_reducible refine below_alloc ?_ (Nat.le_refl _) _ | with_reducible refine Below.setCell ?_ (by first | exact Nat.le_refl _ | (simp only []; omega)) _ | with_reducible assumption))) | omega | (simp <;> omega)) ?_; intro A9 n9 c9 w9 ho9 hB9 _ hz9; have hx9 := hxs.below hB9; have B9 := below_then Bk hB9; have s9 := hB9.size)
          | (at_builtin; refine wpList_appG (w0 := w) _ rfl _ _ _ rfl w.heap.size 97 ii (.agg #[.int .u8 0, .slice none 0 0]) 2 32 Try.underlying40 hi hz' hs' hb' rfl (by omega) (by omega) A' m c' xs rfl (hx9.alloc _) ⟨w9.heap.size, 0, none⟩ 1 1 [.int .u8 k0, .slice A9 n9 c9] rfl rfl (new2 _ _ _ _) (by intro u h; simp at h; rcases h with rfl | rfl <;> rfl) (below_alloc B9 (by omega) _) (by omega) (by simp; omega) ?_; intro A5 c5 w5 O5 hB5 hG5 hz5))
        have hx2 := hx9.alloc (.cells #[.int .u8 k0, .slice A9 n9 c9] 97)
        have OO := ((Ok.below hB9).below ((Below.refl _ w9).alloc (Nat.le_refl _) (.cells #[.int .u8 k0, .slice A9 n9 c9] 97))).snoc hx2 (fun j hj => by obtain ⟨a1, B', m', d', a2, a3⟩ := Hj.out j hj; exact ⟨a1, B', m', d', a2, (a3.below hB9).alloc _⟩) hG5 ⟨k0, d⟩ ((ho9.alloc _).mono (by omega)) O5
        exact ⟨⟨te, os ++ [⟨k0, d⟩], m + 1, A5, c5, by have := HT.out; omega, by have := HT.out; omega, by go_num, rfl, OO, hB5, HS⟩, by simp [intOf]; have := HT.out; omega⟩
    · obtain rfl : t = n := by omega
      have HO : Hid (optsP l = some os) := optsAt_end hat.out (by rw [List.drop_of_length_le (by rw [HL.out]; exact Nat.le_refl _)]; rfl)
      go_wp2_with fail
      refine bodyPost_ret (v := .tuple #[.slice A' m c', .bool true]) (by simp [results, Try.results54, go_sem]) rfl ?_
      exact opPost_yes HO.out Ok Bk
end Go.Proofs.Ythgoffbfgdgkpaa

namespace Go.Proofs.Ythgoffbfgdgkpaa
open Go.RowKit
set_option linter.unusedVariables false
set_option linter.unusedSimpArgs false
set_option linter.unusedSimpArgs false
set_option maxHeartbeats 8000000
set_option maxRecDepth 100000

theorem rtcp_no (p : Pkt) (hp : p.Ok) (A1 : Option Addr) (n1 c1 : Nat) (A2 : Option Addr) (n2 c2 : Nat) (w : World) (k2 : Bs w A2 n2 c2 p.dat) (E x q : Int) (hd : Nat) (hx : bt p.dat 12 = x) (hq : x / 16 = q) (hh : q * 4 = (hd : Int))
    (h : (E = 12 ∧ (p.proto != 6) = true) ∨ (E = 3 ∧ (p.proto != 6) = false ∧ (n2 : Int) < 20) ∨ (E = 4 ∧ (p.proto != 6) = false ∧ 20 ≤ (n2 : Int) ∧ (hd : Int) < 20) ∨ (E = 4 ∧ (p.proto != 6) = false ∧ 20 ≤ (n2 : Int) ∧ 20 ≤ (hd : Int) ∧ (x % 16 != 0) = true) ∨
      (E = 3 ∧ (p.proto != 6) = false ∧ 20 ≤ (n2 : Int) ∧ 20 ≤ (hd : Int) ∧ (x % 16 != 0) = false ∧ (n2 : Int) < (hd : Int)) ∨ (E = 5 ∧ (p.proto != 6) = false ∧ 20 ≤ (n2 : Int) ∧ 20 ≤ (hd : Int) ∧ (x % 16 != 0) = false ∧ (hd : Int) ≤ (n2 : Int) ∧ (psum p 6 p.dat == 0) = false ∧ n2 ≤ 17592186044400)) :
    Calls Try.prog 29 #[(.agg #[.int .u8 (p).tos, .int .u16 (p).id, .bool (p).keep, .int .u8 (p).ttl, .int .u8 (p).proto, .int .u32 (p).src, .int .u32 (p).dst, .slice A1 n1 c1, .slice A2 n2 c2])] w (TcPost w zS E) := by
  have b2 := k2.max
  have x0 : 0 ≤ x := by rw [← hx]; exact bt_lo _ _
  have x1' : x ≤ 255 := by rw [← hx]; exact bt_hi _ _
  have q0 : 0 ≤ q := by omega
  have q1 : q ≤ 15 := by omega
  have hlo : 20 ≤ (n2 : Int) → ∃ b off, A2 = some ⟨b, off, none⟩ := fun h => k2.some_ (by omega)
  obtain ⟨s, hs⟩ : ∃ s, psum p 6 p.dat = s := ⟨_, rfl⟩
  have cs : ∀ W, Bs W A2 n2 c2 p.dat → n2 ≤ 17592186044400 → Calls Try.prog 39 #[(.agg #[.int .u8 (p).tos, .int .u16 (p).id, .bool (p).keep, .int .u8 (p).ttl, .int .u8 (p).proto, .int .u32 (p).src, .int .u32 (p).dst, .slice A1 n1 c1, .slice A2 n2 c2]), .int .u8 6, .slice A2 n2 c2] W fun e w' => e = .returned (.int .u16 s) ∧ Below W.heap.size W w' := fun W k h => by rw [← hs]; exact rssum_any p hp A1 n1 c1 A2 n2 c2 6 (by omega) (by omega) A2 n2 c2 p.dat W k h
  rw [hs] at h
  clear hs
  obtain ⟨k, hk⟩ : ∃ k : Nat, w.heap.size = k := ⟨_, rfl⟩
  obtain ⟨w1, hw1⟩ : ∃ W, ((w.alloc (.cells #[.int .u8 (p).tos, .int .u16 (p).id, .bool (p).keep, .int .u8 (p).ttl, .int .u8 (p).proto, .int .u32 (p).src, .int .u32 (p).dst, .slice A1 n1 c1, .slice A2 n2 c2] 26)).alloc (.cells #[.int .u16 0, .int .u16 0, .int .u32 0, .int .u32 0, .int .u8 0, .int .u16 0, .int .u16 0, .slice none 0 0, .slice none 0 0] 42)) = W := ⟨_, rfl⟩
  have P1 : Blk w1 k #[.int .u8 (p).tos, .int .u16 (p).id, .bool (p).keep, .int .u8 (p).ttl, .int .u8 (p).proto, .int .u32 (p).src, .int .u32 (p).dst, .slice A1 n1 c1, .slice A2 n2 c2] 26 := by rw [← hw1]; exact ((blk_new _ _ _ k (by simp [hk])).alloc _)
  have Z1 : Blk w1 (k + 1) #[.int .u16 0, .int .u16 0, .int .u32 0, .int .u32 0, .int .u8 0, .int .u16 0, .int .u16 0, .slice none 0 0, .slice none 0 0] 42 := by rw [← hw1]; exact (blk_new _ _ _ (k + 1) (by simp [hk]))
  have R1 : Below w.heap.size w w1 := by rw [← hw1]; (repeat (first | with_reducible exact Below.refl _ _ | with_reducible refine below_drew ?_ | with_reducible refine below_drewN ?_ _ | with_reducible refine below_alloc ?_ (Nat.le_refl _) _ | with_reducible refine Below.setCell ?_ (by first | exact Nat.le_refl _ | (simp only []; omega)) _ | with_reducible assumption))
  have Pc1 := P1.cell
  have Zc1 := Z1.cell
  have Pl1 := P1.lt
  have Zl1 := Z1.lt
  have x1 := (k2).below R1
  rcases h with ⟨rfl, h1⟩ | ⟨rfl, h1, h2⟩ | ⟨rfl, h1, h2, h3⟩ | ⟨rfl, h1, h2, h3, h4⟩ | ⟨rfl, h1, h2, h3, h4, h5⟩ | ⟨rfl, h1, h2, h3, h4, h5, h6, h7⟩
  · skip
    clear hx hlo
    go_enter Try.func29, Try.ntmps29
    go_wp2_with fail
    obtain ⟨wf, hwf, Sf⟩ := store9 Z1 (.int .u16 0) (.int .u16 0) (.int .u32 0) (.int .u32 0) (.int .u8 0) (.int .u16 0) (.int .u16 0) (.slice none 0 0) (.slice none 0 0)
    rw [hwf]
    have pf := Sf.blk.cell
    exact bodyPost_ret (v := .tuple #[.agg #[.int .u16 0, .int .u16 0, .int .u32 0, .int .u32 0, .int .u8 0, .int .u16 0, .int .u16 0, .slice none 0 0, .slice none 0 0], .int .i64 12]) (by simp [results, Try.results29, go_sem, pf]) rfl (tcPost_no (Sf.bel R1 (by omega)))

  · skip
    clear hx hlo
    go_enter Try.func29, Try.ntmps29
    go_wp2_with fail
    obtain ⟨wf, hwf, Sf⟩ := store9 Z1 (.int .u16 0) (.int .u16 0) (.int .u32 0) (.int .u32 0) (.int .u8 0) (.int .u16 0) (.int .u16 0) (.slice none 0 0) (.slice none 0 0)
    rw [hwf]
    have pf := Sf.blk.cell
    exact bodyPost_ret (v := .tuple #[.agg #[.int .u16 0, .int .u16 0, .int .u32 0, .int .u32 0, .int .u8 0, .int .u16 0, .int .u16 0, .slice none 0 0, .slice none 0 0], .int .i64 3]) (by simp [results, Try.results29, go_sem, pf]) rfl (tcPost_no (Sf.bel R1 (by omega)))

  · skip
    obtain ⟨b, off, rfl⟩ := hlo h2
    have c12 := x1.at_ (j := 12) (by omega)
    rw [hx] at c12
    clear hx hlo
    go_enter Try.func29, Try.ntmps29
    go_wp2_with fail
    obtain ⟨wf, hwf, Sf⟩ := store9 Z1 (.int .u16 0) (.int .u16 0) (.int .u32 0) (.int .u32 0) (.int .u8 0) (.int .u16 0) (.int .u16 0) (.slice none 0 0) (.slice none 0 0)
    rw [hwf]
    have pf := Sf.blk.cell
    exact bodyPost_ret (v := .tuple #[.agg #[.int .u16 0, .int .u16 0, .int .u32 0, .int .u32 0, .int .u8 0, .int .u16 0, .int .u16 0, .slice none 0 0, .slice none 0 0], .int .i64 4]) (by simp [results, Try.results29, go_sem, pf]) rfl (tcPost_no (Sf.bel R1 (by omega)))

  · skip
    obtain ⟨b, off, rfl⟩ := hlo h2
    have c12 := x1.at_ (j := 12) (by omega)
    rw [hx] at c12
    clear hx hlo
    go_enter Try.func29, Try.ntmps29
    go_wp2_with fail
    obtain ⟨wf, hwf, Sf⟩ := store9 Z1 (.int .u16 0) (.int .u16 0) (.int .u32 0) (.int .u32 0) (.int .u8 0) (.int .u16 0) (.int .u16 0) (.slice none 0 0) (.slice none 0 0)
    rw [hwf]
    have pf := Sf.blk.cell
    exact bodyPost_ret (v := .tuple #[.agg #[.int .u16 0, .int .u16 0, .int .u32 0, .int .u32 0, .int .u8 0, .int .u16 0, .int .u16 0, .slice none 0 0, .slice none 0 0], .int .i64 4]) (by simp [results, Try.results29, go_sem, pf]) rfl (tcPost_no (Sf.bel R1 (by omega)))

  · skip
    obtain ⟨b, off, rfl⟩ := hlo h2
    have c12 := x1.at_ (j := 12) (by omega)
    rw [hx] at c12
    clear hx hlo
    go_enter Try.func29, Try.ntmps29
    go_wp2_with fail
    obtain ⟨wf, hwf, Sf⟩ := store9 Z1 (.int .u16 0) (.int .u16 0) (.int .u32 0) (.int .u32 0) (.int .u8 0) (.int .u16 0) (.int .u16 0) (.slice none 0 0) (.slice none 0 0)
    rw [hwf]
    have pf := Sf.blk.cell
    exact bodyPost_ret (v := .tuple #[.agg #[.int .u16 0, .int .u16 0, .int .u32 0, .int .u32 0, .int .u8 0, .int .u16 0, .int .u16 0, .slice none 0 0, .slice none 0 0], .int .i64 3]) (by simp [results, Try.results29, go_sem, pf]) rfl (tcPost_no (Sf.bel R1 (by omega)))

  · skip
    obtain ⟨b, off, rfl⟩ := hlo h2
    have c12 := x1.at_ (j := 12) (by omega)
    rw [hx] at c12
    clear hx hlo
    go_enter Try.func29, Try.ntmps29
    have h6' : (s != 0) = true := by simpa using h6
    go_wp2_with (go_at_call 39; ((with_reducible refine (cs w1 x1 h7).mono ?_); rintro e w2 ⟨rfl, hB2⟩); have P2 := P1.below hB2; have Pc2 := P2.cell; clear Pc1; have Z2 := Z1.below hB2; have Zc2 := Z2.cell; clear Zc1; have x2 := x1.below hB2; have R2 := below_then R1 hB2)
    obtain ⟨wf, hwf, Sf⟩ := store9 Z2 (.int .u16 0) (.int .u16 0) (.int .u32 0) (.int .u32 0) (.int .u8 0) (.int .u16 0) (.int .u16 0) (.slice none 0 0) (.slice none 0 0)
    rw [hwf]
    have pf := Sf.blk.cell
    exact bodyPost_ret (v := .tuple #[.agg #[.int .u16 0, .int .u16 0, .int .u32 0, .int .u32 0, .int .u8 0, .int .u16 0, .int .u16 0, .slice none 0 0, .slice none 0 0], .int .i64 5]) (by simp [results, Try.results29, go_sem, pf]) rfl (tcPost_no (Sf.bel R2 (by omega)))

theorem rtcp_bad (p : Pkt) (hp : p.Ok) (A1 : Option Addr) (n1 c1 : Nat) (A2 : Option Addr) (n2 c2 : Nat) (w : World) (k2 : Bs w A2 n2 c2 p.dat) (x q : Int) (hd : Nat) (hx : bt p.dat 12 = x) (hq : x / 16 = q) (hh : q * 4 = (hd : Int))
    (h1 : (p.proto != 6) = false) (h2 : 20 ≤ (n2 : Int)) (h3 : 20 ≤ (hd : Int)) (h4 : (x % 16 != 0) = false) (h5 : (hd : Int) ≤ (n2 : Int)) (h6 : (psum p 6 p.dat == 0) = true) (h7 : n2 ≤ 17592186044400) (ho : optsP ((p.dat.take hd).drop 20) = none) :
    Calls Try.prog 29 #[(.agg #[.int .u8 (p).tos, .int .u16 (p).id, .bool (p).keep, .int .u8 (p).ttl, .int .u8 (p).proto, .int .u32 (p).src, .int .u32 (p).dst, .slice A1 n1 c1, .slice A2 n2 c2])] w (TcPost w zS 4) := by
  have b2 := k2.max
  have hcap := k2.cap
  have x0 : 0 ≤ x := by rw [← hx]; exact bt_lo _ _
  have x1' : x ≤ 255 := by rw [← hx]; exact bt_hi _ _
  have q0 : 0 ≤ q := by omega
  have q1 : q ≤ 15 := by omega
  have hdb : (hd : Int) ≤ 60 := by omega
  have hlL : p.dat.take n2 = p.dat := List.take_of_length_le (by rw [k2.len]; exact Nat.le_refl _)
  obtain ⟨i8, hi8, -, hs8, -⟩ := info_parts info_u8
  obtain ⟨b, off, rfl⟩ := k2.some_ (by omega)
  have hcutO : ∀ W, (Instr.slice 24 (.slice (some ⟨b, off, none⟩) n2 c2) (some (.int .i64 20)) (some (.int .i64 (hd : Int))) none).run Try.prog W = _ := fun W => cut_lh Try.underlying24 hi8 hs8 (some ⟨b, off, none⟩) n2 c2 .i64 .i64 20 hd (by omega) (by omega) (by omega) W
  obtain ⟨A', n', c', eA, en, ec, hbO⟩ := k2.cutE (lo := 20) (hi := hd) (by omega) (by omega)
  simp only [show (20 : Int).toNat = 20 from rfl, show ((hd : Int)).toNat = hd from rfl, eA, en, ec] at hcutO
  have hn' : n' ≤ 40 := by omega
  clear eA ec
  clear hlL en
  have h6' : psum p 6 p.dat = 0 := by simpa using h6
  have cs : ∀ W, Bs W (some ⟨b, off, none⟩) n2 c2 p.dat → Calls Try.prog 39 #[(.agg #[.int .u8 (p).tos, .int .u16 (p).id, .bool (p).keep, .int .u8 (p).ttl, .int .u8 (p).proto, .int .u32 (p).src, .int .u32 (p).dst, .slice A1 n1 c1, .slice (some ⟨b, off, none⟩) n2 c2]), .int .u8 6, .slice (some ⟨b, off, none⟩) n2 c2] W fun e w' => e = .returned (.int .u16 0) ∧ Below W.heap.size W w' := fun W k => by
    have := rssum_any p hp A1 n1 c1 (some ⟨b, off, none⟩) n2 c2 6 (by omega) (by omega) (some ⟨b, off, none⟩) n2 c2 p.dat W k h7
    rw [h6'] at this; exact this
  clear h6 h6'
  have co : ∀ W, Bs W A' n' c' ((p.dat.take hd).drop 20) → Calls Try.prog 54 #[.slice A' n' c'] W fun e w' => ∃ A n c, e = .returned (.tuple #[.slice A n c, .bool false]) ∧ Below W.heap.size W w' := fun W k => by
    refine (roptsP_any A' n' c' _ W k hn').mono fun e w' hq => ?_
    obtain ⟨A, n, c, rfl, -, hB⟩ := hq.out
    rw [ho]
    exact ⟨A, n, c, rfl, hB⟩
  clear ho
  have c12' := fun W (h : Bs W (some ⟨b, off, none⟩) n2 c2 p.dat) => h.at_ (j := 12) (by omega)
  simp only [hx] at c12'
  clear hx
  obtain ⟨k, hk⟩ : ∃ k : Nat, w.heap.size = k := ⟨_, rfl⟩
  obtain ⟨w1, hw1⟩ : ∃ W, ((w.alloc (.cells #[.int .u8 (p).tos, .int .u16 (p).id, .bool (p).keep, .int .u8 (p).ttl, .int .u8 (p).proto, .int .u32 (p).src, .int .u32 (p).dst, .slice A1 n1 c1, .slice (some ⟨b, off, none⟩) n2 c2] 26)).alloc (.cells #[.int .u16 0, .int .u16 0, .int .u32 0, .int .u32 0, .int .u8 0, .int .u16 0, .int .u16 0, .slice none 0 0, .slice none 0 0] 42)) = W := ⟨_, rfl⟩
  have P1 : Blk w1 k #[.int .u8 (p).tos, .int .u16 (p).id, .bool (p).keep, .int .u8 (p).ttl, .int .u8 (p).proto, .int .u32 (p).src, .int .u32 (p).dst, .slice A1 n1 c1, .slice (some ⟨b, off, none⟩) n2 c2] 26 := by rw [← hw1]; exact ((blk_new _ _ _ k (by simp [hk])).alloc _)
  have Z1 : Blk w1 (k + 1) #[.int .u16 0, .int .u16 0, .int .u32 0, .int .u32 0, .int .u8 0, .int .u16 0, .int .u16 0, .slice none 0 0, .slice none 0 0] 42 := by rw [← hw1]; exact (blk_new _ _ _ (k + 1) (by simp [hk]))
  have R1 : Below w.heap.size w w1 := by rw [← hw1]; (repeat (first | with_reducible exact Below.refl _ _ | with_reducible refine below_drew ?_ | with_reducible refine below_drewN ?_ _ | with_reducible refine below_alloc ?_ (Nat.le_refl _) _ | with_reducible refine Below.setCell ?_ (by first | exact Nat.le_refl _ | (simp only []; omega)) _ | with_reducible assumption))
  have Pc1 := P1.cell
  have Zc1 := Z1.cell
  have Pl1 := P1.lt
  have Zl1 := Z1.lt
  have x1 := (k2).below R1
  have y1 := (hbO).below R1
  have c12 := c12' _ x1
  go_enter Try.func29, Try.ntmps29
  go_wp2_with (first
    | (go_at_call 39; ((with_reducible refine (cs w1 x1).mono ?_); rintro e w2 ⟨rfl, hB2⟩); have P2 := P1.below hB2; have Pc2 := P2.cell; clear Pc1; have Z2 := Z1.below hB2; have Zc2 := Z2.cell; clear Zc1; have x2 := x1.below hB2; have y2 := y1.below hB2; have R2 := below_then R1 hB2)
    | (go_at_call 54; ((with_reducible refine (co w2 y2).mono ?_); rintro e w3 ⟨A6, n6, c6, rfl, hB3⟩); have P3 := P2.below hB3; have Pc3 := P3.cell; clear Pc2; have Z3 := Z2.below hB3; have Zc3 := Z3.cell; clear Zc2; have x3 := x2.below hB3; have y3 := y2.below hB3; have R3 := below_then R2 hB3))
  obtain ⟨wf, hwf, Sf⟩ := store9 Z3 (.int .u16 0) (.int .u16 0) (.int .u32 0) (.int .u32 0) (.int .u8 0) (.int .u16 0) (.int .u16 0) (.slice none 0 0) (.slice none 0 0)
  rw [hwf]
  have pf := Sf.blk.cell
  exact bodyPost_ret (v := .tuple #[.agg #[.int .u16 0, .int .u16 0, .int .u32 0, .int .u32 0, .int .u8 0, .int .u16 0, .int .u16 0, .slice none 0 0, .slice none 0 0], .int .i64 4]) (by simp [results, Try.results29, go_sem, pf]) rfl (tcPost_no (Sf.bel R3 (by omega)))

theorem rtcp_go (p : Pkt) (hp : p.Ok) (A1 : Option Addr) (n1 c1 : Nat) (A2 : Option Addr) (n2 c2 : Nat) (w : World) (k2 : Bs w A2 n2 c2 p.dat) (x q : Int) (hd : Nat) (hx : bt p.dat 12 = x) (hq : x / 16 = q) (hh : q * 4 = (hd : Int))
    (h1 : (p.proto != 6) = false) (h2 : 20 ≤ (n2 : Int)) (h3 : 20 ≤ (hd : Int)) (h4 : (x % 16 != 0) = false) (h5 : (hd : Int) ≤ (n2 : Int)) (h6 : (psum p 6 p.dat == 0) = true) (h7 : n2 ≤ 17592186044400) (os : List Opt) (ho : optsP ((p.dat.take hd).drop 20) = some os) :
    Calls Try.prog 29 #[(.agg #[.int .u8 (p).tos, .int .u16 (p).id, .bool (p).keep, .int .u8 (p).ttl, .int .u8 (p).proto, .int .u32 (p).src, .int .u32 (p).dst, .slice A1 n1 c1, .slice A2 n2 c2])] w (TcPost w ⟨get16 p.dat 0, get16 p.dat 2, get32 p.dat 4, get32 p.dat 8, bt p.dat 13, get16 p.dat 14, get16 p.dat 18, os, p.dat.drop hd⟩ 0) := by
  have b2 := k2.max
  have hcap := k2.cap
  have x0 : 0 ≤ x := by rw [← hx]; exact bt_lo _ _
  have x1' : x ≤ 255 := by rw [← hx]; exact bt_hi _ _
  have q0 : 0 ≤ q := by omega
  have q1 : q ≤ 15 := by omega
  have hdb : (hd : Int) ≤ 60 := by omega
  have hlL : p.dat.take n2 = p.dat := List.take_of_length_le (by rw [k2.len]; exact Nat.le_refl _)
  obtain ⟨i8, hi8, -, hs8, -⟩ := info_parts info_u8
  obtain ⟨b, off, rfl⟩ := k2.some_ (by omega)
  have hcutO : ∀ W, (Instr.slice 24 (.slice (some ⟨b, off, none⟩) n2 c2) (some (.int .i64 20)) (some (.int .i64 (hd : Int))) none).run Try.prog W = _ := fun W => cut_lh Try.underlying24 hi8 hs8 (some ⟨b, off, none⟩) n2 c2 .i64 .i64 20 hd (by omega) (by omega) (by omega) W
  obtain ⟨A', n', c', eA, en, ec, hbO⟩ := k2.cutE (lo := 20) (hi := hd) (by omega) (by omega)
  simp only [show (20 : Int).toNat = 20 from rfl, show ((hd : Int)).toNat = hd from rfl, eA, en, ec] at hcutO
  have hn' : n' ≤ 40 := by omega
  clear eA ec
  have hcutD : ∀ W, (Instr.slice 24 (.slice (some ⟨b, off, none⟩) n2 c2) (some (.int .i64 (hd : Int))) none none).run Try.prog W = _ := fun W => cut_l Try.underlying24 hi8 hs8 (some ⟨b, off, none⟩) n2 c2 .i64 hd (by omega) (by omega) W
  obtain ⟨A'', n'', c'', eA2, en2, ec2, hbD⟩ := k2.cutE (lo := hd) (hi := n2) (by omega) (Nat.le_refl _)
  simp only [show ((hd : Int)).toNat = hd from rfl, eA2, en2, ec2] at hcutD
  rw [hlL] at hbD
  have hn'' : n'' ≤ n2 := by omega
  clear eA2 en2 ec2
  clear hlL en
  have h6' : psum p 6 p.dat = 0 := by simpa using h6
  have cs : ∀ W, Bs W (some ⟨b, off, none⟩) n2 c2 p.dat → Calls Try.prog 39 #[(.agg #[.int .u8 (p).tos, .int .u16 (p).id, .bool (p).keep, .int .u8 (p).ttl, .int .u8 (p).proto, .int .u32 (p).src, .int .u32 (p).dst, .slice A1 n1 c1, .slice (some ⟨b, off, none⟩) n2 c2]), .int .u8 6, .slice (some ⟨b, off, none⟩) n2 c2] W fun e w' => e = .returned (.int .u16 0) ∧ Below W.heap.size W w' := fun W k => by
    have := rssum_any p hp A1 n1 c1 (some ⟨b, off, none⟩) n2 c2 6 (by omega) (by omega) (some ⟨b, off, none⟩) n2 c2 p.dat W k h7
    rw [h6'] at this; exact this
  clear h6 h6'
  have co : ∀ W, Bs W A' n' c' ((p.dat.take hd).drop 20) → Calls Try.prog 54 #[.slice A' n' c'] W fun e w' => ∃ A n c, e = .returned (.tuple #[.slice A n c, .bool true]) ∧ OsO w' W.heap.size A n c os ∧ n ≤ 40 ∧ Below W.heap.size W w' := fun W k => by
    refine (roptsP_any A' n' c' _ W k hn').mono fun e w' hq => ?_
    obtain ⟨A, n, c, rfl, h, hB⟩ := hq.out
    obtain ⟨h8, h9⟩ := h os ho
    rw [ho]
    exact ⟨A, n, c, rfl, h8, by have := k.len; omega, hB⟩
  clear ho
  have c12' := fun W (h : Bs W (some ⟨b, off, none⟩) n2 c2 p.dat) => h.at_ (j := 12) (by omega)
  simp only [hx] at c12'
  clear hx
  have c13' := fun W (h : Bs W (some ⟨b, off, none⟩) n2 c2 p.dat) => h.at_ (j := 13) (by omega)
  obtain ⟨v13, hv13⟩ : ∃ v, bt p.dat 13 = v := ⟨_, rfl⟩
  simp only [hv13] at c13'
  rw [hv13]
  clear hv13
  obtain ⟨v0, hv0⟩ : ∃ q, get16 p.dat 0 = q := ⟨_, rfl⟩
  have gv0 : ∀ W, Bs W (some ⟨b, off, none⟩) n2 c2 p.dat → Calls Try.prog 55 #[.slice (some ⟨b, off, none⟩) n2 c2, .int .i64 0] W fun e w' => e = .returned (.int .u16 v0) ∧ Drawn W w' := fun W k => by have := rget16_any (some ⟨b, off, none⟩) n2 c2 p.dat 0 W k; rw [hv0] at this; exact this
  rw [hv0]
  clear hv0
  obtain ⟨v2, hv2⟩ : ∃ q, get16 p.dat 2 = q := ⟨_, rfl⟩
  have gv2 : ∀ W, Bs W (some ⟨b, off, none⟩) n2 c2 p.dat → Calls Try.prog 55 #[.slice (some ⟨b, off, none⟩) n2 c2, .int .i64 2] W fun e w' => e = .returned (.int .u16 v2) ∧ Drawn W w' := fun W k => by have := rget16_any (some ⟨b, off, none⟩) n2 c2 p.dat 2 W k; rw [hv2] at this; exact this
  rw [hv2]
  clear hv2
  obtain ⟨v4, hv4⟩ : ∃ q, get32 p.dat 4 = q := ⟨_, rfl⟩
  have gv4 : ∀ W, Bs W (some ⟨b, off, none⟩) n2 c2 p.dat → Calls Try.prog 56 #[.slice (some ⟨b, off, none⟩) n2 c2, .int .i64 4] W fun e w' => e = .returned (.int .u32 v4) ∧ Drawn W w' := fun W k => by have := rget32_any (some ⟨b, off, none⟩) n2 c2 p.dat 4 W k; rw [hv4] at this; exact this
  rw [hv4]
  clear hv4
  obtain ⟨v8, hv8⟩ : ∃ q, get32 p.dat 8 = q := ⟨_, rfl⟩
  have gv8 : ∀ W, Bs W (some ⟨b, off, none⟩) n2 c2 p.dat → Calls Try.prog 56 #[.slice (some ⟨b, off, none⟩) n2 c2, .int .i64 8] W fun e w' => e = .returned (.int .u32 v8) ∧ Drawn W w' := fun W k => by have := rget32_any (some ⟨b, off, none⟩) n2 c2 p.dat 8 W k; rw [hv8] at this; exact this
  rw [hv8]
  clear hv8
  obtain ⟨v14, hv14⟩ : ∃ q, get16 p.dat 14 = q := ⟨_, rfl⟩
  have gv14 : ∀ W, Bs W (some ⟨b, off, none⟩) n2 c2 p.dat → Calls Try.prog 55 #[.slice (some ⟨b, off, none⟩) n2 c2, .int .i64 14] W fun e w' => e = .returned (.int .u16 v14) ∧ Drawn W w' := fun W k => by have := rget16_any (some ⟨b, off, none⟩) n2 c2 p.dat 14 W k; rw [hv14] at this; exact this
  rw [hv14]
  clear hv14
  obtain ⟨v18, hv18⟩ : ∃ q, get16 p.dat 18 = q := ⟨_, rfl⟩
  have gv18 : ∀ W, Bs W (some ⟨b, off, none⟩) n2 c2 p.dat → Calls Try.prog 55 #[.slice (some ⟨b, off, none⟩) n2 c2, .int .i64 18] W fun e w' => e = .returned (.int .u16 v18) ∧ Drawn W w' := fun W k => by have := rget16_any (some ⟨b, off, none⟩) n2 c2 p.dat 18 W k; rw [hv18] at this; exact this
  rw [hv18]
  clear hv18
  obtain ⟨k, hk⟩ : ∃ k : Nat, w.heap.size = k := ⟨_, rfl⟩
  obtain ⟨w1, hw1⟩ : ∃ W, ((w.alloc (.cells #[.int .u8 (p).tos, .int .u16 (p).id, .bool (p).keep, .int .u8 (p).ttl, .int .u8 (p).proto, .int .u32 (p).src, .int .u32 (p).dst, .slice A1 n1 c1, .slice (some ⟨b, off, none⟩) n2 c2] 26)).alloc (.cells #[.int .u16 0, .int .u16 0, .int .u32 0, .int .u32 0, .int .u8 0, .int .u16 0, .int .u16 0, .slice none 0 0, .slice none 0 0] 42)) = W := ⟨_, rfl⟩
  have P1 : Blk w1 k #[.int .u8 (p).tos, .int .u16 (p).id, .bool (p).keep, .int .u8 (p).ttl, .int .u8 (p).proto, .int .u32 (p).src, .int .u32 (p).dst, .slice A1 n1 c1, .slice (some ⟨b, off, none⟩) n2 c2] 26 := by rw [← hw1]; exact ((blk_new _ _ _ k (by simp [hk])).alloc _)
  have Z1 : Blk w1 (k + 1) #[.int .u16 0, .int .u16 0, .int .u32 0, .int .u32 0, .int .u8 0, .int .u16 0, .int .u16 0, .slice none 0 0, .slice none 0 0] 42 := by rw [← hw1]; exact (blk_new _ _ _ (k + 1) (by simp [hk]))
  have R1 : Below w.heap.size w w1 := by rw [← hw1]; (repeat (first | with_reducible exact Below.refl _ _ | with_reducible refine below_drew ?_ | with_reducible refine below_drewN ?_ _ | with_reducible refine below_alloc ?_ (Nat.le_refl _) _ | with_reducible refine Below.setCell ?_ (by first | exact Nat.le_refl _ | (simp only []; omega)) _ | with_reducible assumption))
  have Pc1 := P1.cell
  have Zc1 := Z1.cell
  have Pl1 := P1.lt
  have Zl1 := Z1.lt
  have x1 := (k2).below R1
  have y1 := (hbO).below R1
  have z1 := (hbD).below R1
  have c12 := c12' _ x1
  go_enter Try.func29, Try.ntmps29
  go_wp2_with (first
    | (go_at_call 39; ((with_reducible refine (cs w1 x1).mono ?_); rintro e w2 ⟨rfl, hB2⟩); have P2 := P1.below hB2; have Pc2 := P2.cell; clear Pc1; have Z2 := Z1.below hB2; have Zc2 := Z2.cell; clear Zc1; have x2 := x1.below hB2; have y2 := y1.below hB2; have z2 := z1.below hB2; have R2 := below_then R1 hB2)
    | (go_at_call 54; ((with_reducible refine (co w2 y2).mono ?_); rintro e w3 ⟨A6, n6, c6, rfl, hO6, hn6, hB3⟩); have P3 := P2.below hB3; have Pc3 := P3.cell; clear Pc2; have Z3 := Z2.below hB3; have Zc3 := Z3.cell; clear Zc2; have x3 := x2.below hB3; have y3 := y2.below hB3; have z3 := z2.below hB3; have R3 := below_then R2 hB3))
  have s2 := R2.size
  have h13 : (13 : Int) < (n2 : Int) := by omega
  refine region_txt 18 (by kernel_rfl) (by kernel_rfl) ?_; (iterate 18 (first | (apply ObsK.skip (by rfl)) | (apply ObsK.v (by rfl); (intro wo hT; (repeat (first | (intro v hv; (fail)) | (intro _ _ k; try have hcv := cv k))); (have pc := (P3.below hT).cell; have xo := x3.below hT; have c13 := c13' _ xo; have hsz : w3.heap.size ≤ wo.heap.size := hT.size); refine Goes.mk ?_; go_simp; first | exact goes_v | exact goes_b (by assumption) | exact goes_new hsz | (refine goes_enter ?_; first | (go_at_call 55; ((with_reducible refine (gv0 wo xo).mono ?_); rintro e w5 ⟨rfl, hD5⟩); exact ret_v hD5.bel) | (go_at_call 55; ((with_reducible refine (gv2 wo xo).mono ?_); rintro e w5 ⟨rfl, hD5⟩); exact ret_v hD5.bel) | (go_at_call 56; ((with_reducible refine (gv4 wo xo).mono ?_); rintro e w5 ⟨rfl, hD5⟩); exact ret_v hD5.bel) | (go_at_call 56; ((with_reducible refine (gv8 wo xo).mono ?_); rintro e w5 ⟨rfl, hD5⟩); exact ret_v hD5.bel) | (go_at_call 55; ((with_reducible refine (gv14 wo xo).mono ?_); rintro e w5 ⟨rfl, hD5⟩); exact ret_v hD5.bel) | (go_at_call 55; ((with_reducible refine (gv18 wo xo).mono ?_); rintro e w5 ⟨rfl, hD5⟩); exact ret_v hD5.bel)))) | (apply ObsK.b (by rfl); (intro wo hT; (repeat (first | (intro v hv; (fail)) | (intro _ _ k; try have hcv := cv k))); (have pc := (P3.below hT).cell; have xo := x3.below hT; have c13 := c13' _ xo; have hsz : w3.heap.size ≤ wo.heap.size := hT.size); refine Goes.mk ?_; go_simp; first | exact goes_v | exact goes_b (by assumption) | exact goes_new hsz | (refine goes_enter ?_; first | (go_at_call 55; ((with_reducible refine (gv0 wo xo).mono ?_); rintro e w5 ⟨rfl, hD5⟩); exact ret_v hD5.bel) | (go_at_call 55; ((with_reducible refine (gv2 wo xo).mono ?_); rintro e w5 ⟨rfl, hD5⟩); exact ret_v hD5.bel) | (go_at_call 56; ((with_reducible refine (gv4 wo xo).mono ?_); rintro e w5 ⟨rfl, hD5⟩); exact ret_v hD5.bel) | (go_at_call 56; ((with_reducible refine (gv8 wo xo).mono ?_); rintro e w5 ⟨rfl, hD5⟩); exact ret_v hD5.bel) | (go_at_call 55; ((with_reducible refine (gv14 wo xo).mono ?_); rintro e w5 ⟨rfl, hD5⟩); exact ret_v hD5.bel) | (go_at_call 55; ((with_reducible refine (gv18 wo xo).mono ?_); rintro e w5 ⟨rfl, hD5⟩); exact ret_v hD5.bel)))) | (apply ObsK.p (q := isNew w3.heap.size #[.int .u16 0, .int .u16 0, .int .u32 0, .int .u32 0, .int .u8 0, .int .u16 0, .int .u16 0, .slice none 0 0, .slice none 0 0] 42) (by rfl) st_isNew; (intro wo hT; (repeat (first | (intro v hv; (fail)) | (intro _ _ k; try have hcv := cv k))); (have pc := (P3.below hT).cell; have xo := x3.below hT; have c13 := c13' _ xo; have hsz : w3.heap.size ≤ wo.heap.size := hT.size); refine Goes.mk ?_; go_simp; first | exact goes_v | exact goes_b (by assumption) | exact goes_new hsz | (refine goes_enter ?_; first | (go_at_call 55; ((with_reducible refine (gv0 wo xo).mono ?_); rintro e w5 ⟨rfl, hD5⟩); exact ret_v hD5.bel) | (go_at_call 55; ((with_reducible refine (gv2 wo xo).mono ?_); rintro e w5 ⟨rfl, hD5⟩); exact ret_v hD5.bel) | (go_at_call 56; ((with_reducible refine (gv4 wo xo).mono ?_); rintro e w5 ⟨rfl, hD5⟩); exact ret_v hD5.bel) | (go_at_call 56; ((with_reducible refine (gv8 wo xo).mono ?_); rintro e w5 ⟨rfl, hD5⟩); exact ret_v hD5.bel) | (go_at_call 55; ((with_reducible refine (gv14 wo xo).mono ?_); rintro e w5 ⟨rfl, hD5⟩); exact ret_v hD5.bel) | (go_at_call 55; ((with_reducible refine (gv18 wo xo).mono ?_); rintro e w5 ⟨rfl, hD5⟩); exact ret_v hD5.bel)))))); refine ObsK.nil ?_; intro wz hBz; simp only [finOn, List.drop_succ_cons, List.drop_zero, List.drop_nil]
  rintro _ ⟨gS, rfl, hS, S4⟩
  go_simp
  obtain ⟨wq, hwq, Sq⟩ := store9 S4 (.int .u16 v0) (.int .u16 v2) (.int .u32 v4) (.int .u32 v8) (.int .u8 v13) (.int .u16 v14) (.int .u16 v18) (.slice A6 n6 c6) (.slice none 0 0)
  have hBq := Sq.bel hBz hS
  have cS4 := S4.cell
  have zl3 := Z3.lt
  have r3s := R3.size
  have S4 := Sq.blk
  have Sc4 := S4.cell
  have P4 := P3.below hBq
  have Pc4 := P4.cell
  clear Pc3
  have Z4 := Z3.below hBq
  have Zc4 := Z4.cell
  clear Zc3
  have x4 := x3.below hBq
  have y4 := y3.below hBq
  have z4 := z3.below hBq
  have R4 := below_then R3 hBq
  have gl := S4.lt
  go_wp2_with fail
  refine region_txt 5 (by kernel_rfl) (by kernel_rfl) ?_; (iterate 5 (first | (apply ObsK.skip (by rfl)) | (apply ObsK.v (by rfl); (intro wo hT; (repeat (first | (intro _ _ k; try have hcv := cv k))); (have gc := (S4.below hT).cell); refine Goes.mk ?_; go_simp; first | exact goes_v | exact goes_b (by assumption) | (refine goes_enter ?_; first | fail))) | (apply ObsK.b (by rfl); (intro wo hT; (repeat (first | (intro _ _ k; try have hcv := cv k))); (have gc := (S4.below hT).cell); refine Goes.mk ?_; go_simp; first | exact goes_v | exact goes_b (by assumption) | (refine goes_enter ?_; first | fail))))); refine ObsK.nil ?_; intro wz hBz; simp only [finOn, List.drop_succ_cons, List.drop_zero, List.drop_nil]
  go_simp
  have gs := hBz.size
  have hBqz := below_then hBq hBz
  have P5 := P4.below hBz
  have Pc5 := P5.cell
  clear Pc4
  have Z5 := Z4.below hBz
  have Zc5 := Z5.cell
  clear Zc4
  have S5 := S4.below hBz
  have Sc5 := S5.cell
  clear Sc4
  have x5 := x4.below hBz
  have y5 := y4.below hBz
  have z5 := z4.below hBz
  have R5 := below_then R4 hBz
  go_wp2_with (at_builtin; refine wpList_append_bs (w0 := wz) _ rfl _ _ _ rfl wz.heap.size 5 Try.underlying24 info_u8 none 0 0 [] rfl (own_nil _ _ _) A'' n'' c'' _ rfl z5 (Below.refl _ _) (by omega) (by first | exact Nat.le_refl _ | exact Below.size (Below.refl _ _) | omega | (simp <;> omega)) ?_; intro A7 n7 c7 w7 ho7 hB7 _ hz7; have u7 : n7 = n'' := (by have := ho7.len; have := z5.len; simp at *; omega); subst u7; replace ho7 : Own w7 wz.heap.size 5 A7 n7 c7 (p.dat.drop hd) := ho7; have G7 := S5.below hB7; have gc7 := G7.cell; (obtain ⟨w8, hw8, S8⟩ := store1 G7 8 (.slice A7 n7 c7)); simp only [List.setIfInBounds_toArray, List.set_cons_zero, List.set_cons_succ] at S8; have gc8 := S8.blk.cell; have Z8 := S8.other (by omega) (Z5.below hB7); have zc8 := Z8.cell; have T8 := S8.bel (below_then R5 hB7) (by omega); have O8 := S8.own ho7 (fun a e => by have := ho7.ge a e; omega); have B38 := S8.bel (below_then hBqz hB7) hS)
  obtain ⟨wf, hwf, Sf⟩ := store9 Z8 (.int .u16 v0) (.int .u16 v2) (.int .u32 v4) (.int .u32 v8) (.int .u8 v13) (.int .u16 v14) (.int .u16 v18) (.slice A6 n6 c6) (.slice A7 n7 c7)
  rw [hwf]
  have pf := Sf.blk.cell
  have Q8 : SO w8 w2.heap.size (k + 1) 42 A6 n6 c6 os := ⟨hO6.below B38, _, Z8⟩
  have hT1 : 42 ≠ 5 := by decide
  have hT2 : 42 ≠ 97 := by decide
  have Qf : SO wf w2.heap.size (k + 1) 42 A6 n6 c6 os := by
    rw [← hwf]; exact ((((((((Q8.set hT1 hT2 _ _).set hT1 hT2 _ _).set hT1 hT2 _ _).set hT1 hT2 _ _).set hT1 hT2 _ _).set hT1 hT2 _ _).set hT1 hT2 _ _).set hT1 hT2 _ _).set hT1 hT2 _ _
  have rz := R5.size
  have Of := Sf.own O8 (fun a e => by have := O8.ge a e; omega)
  exact bodyPost_ret (v := .tuple #[.agg #[.int .u16 v0, .int .u16 v2, .int .u32 v4, .int .u32 v8, .int .u8 v13, .int .u16 v14, .int .u16 v18, .slice A6 n6 c6, .slice A7 n7 c7], .int .i64 0]) (by simp [results, Try.results29, go_sem, pf]) rfl ⟨⟨A6, n6, c6, A7, n7, c7, rfl, Qf.o.mono s2, hn6, Of.mono rz, Sf.bel T8 (by omega)⟩⟩

theorem rtcp_any (p : Pkt) (hp : p.Ok) (A1 : Option Addr) (n1 c1 : Nat) (A2 : Option Addr) (n2 c2 : Nat) (w : World) (k2 : Bs w A2 n2 c2 p.dat) (h7 : n2 ≤ 17592186044400) :
    Calls Try.prog 29 #[(.agg #[.int .u8 (p).tos, .int .u16 (p).id, .bool (p).keep, .int .u8 (p).ttl, .int .u8 (p).proto, .int .u32 (p).src, .int .u32 (p).dst, .slice A1 n1 c1, .slice A2 n2 c2])] w (TcPost w (tcS p) (tcE p)) := by
  have b0 := bt_lo p.dat 12
  have hq : bt p.dat 12 / 16 * 4 = ((hdS p.dat : Nat) : Int) := by unfold hdS; omega
  rcases tc_ways p n2 k2.len _ rfl _ rfl with ⟨h0, h⟩ | ⟨h1, h2, h3, h4, h5, h6, hN, hY⟩
  · have hs : tcS p = zS := by unfold tcS; rw [if_neg h0]
    rw [hs]
    refine rtcp_no p hp A1 n1 c1 A2 n2 c2 w k2 _ _ _ _ rfl rfl hq ?_
    rcases h with h | h | h | h | h | h
    · exact .inl h
    · exact .inr (.inl h)
    · exact .inr (.inr (.inl h))
    · exact .inr (.inr (.inr (.inl h)))
    · exact .inr (.inr (.inr (.inr (.inl h))))
    · exact .inr (.inr (.inr (.inr (.inr ⟨h.1, h.2.1, h.2.2.1, h.2.2.2.1, h.2.2.2.2.1, h.2.2.2.2.2.1, h.2.2.2.2.2.2, h7⟩))))
  · rcases ho : optsP ((p.dat.take (hdS p.dat)).drop 20) with _ | os
    · have hE := hN ho
      have hs : tcS p = zS := by unfold tcS; rw [if_neg (by rw [hE]; decide)]
      rw [hs, hE]
      exact rtcp_bad p hp A1 n1 c1 A2 n2 c2 w k2 _ _ _ rfl rfl hq h1 h2 h3 h4 h5 h6 h7 ho
    · have hE := hY os ho
      have hs : tcS p = ⟨get16 p.dat 0, get16 p.dat 2, get32 p.dat 4, get32 p.dat 8, bt p.dat 13, get16 p.dat 14, get16 p.dat 18, os, p.dat.drop (hdS p.dat)⟩ := by unfold tcS rdS; rw [if_pos hE, ho]; rfl
      rw [hs, hE]
      exact rtcp_go p hp A1 n1 c1 A2 n2 c2 w k2 _ _ _ rfl rfl hq h1 h2 h3 h4 h5 h6 h7 os ho
end Go.Proofs.Ythgoffbfgdgkpaa


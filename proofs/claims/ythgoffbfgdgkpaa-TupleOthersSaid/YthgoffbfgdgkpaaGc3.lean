/- Parts of the proofs of this seat, laid together. -/
import Derived.Test.YthgoffbfgdgkpaaGc2
namespace Go.Proofs.Ythgoffbfgdgkpaa
open Go.RowKit
set_option linter.unusedVariables false
set_option linter.unusedSimpArgs false
set_option linter.unusedSimpArgs false
set_option maxHeartbeats 4000000
set_option maxRecDepth 100000

theorem bs00 (W : World) : Bs (W.alloc (.cells #[.int .u8 0, .int .u8 0] 5)) (some ⟨W.heap.size, 0, none⟩) 2 2 [0, 0] := bs_lit (W := W) (e := 5) [0, 0] 2 rfl (by omega)
theorem own_lt {w : World} {base : Nat} {e : TypeId} {A : Option Addr} {n c : Nat} {l : List UInt8} (h : Own w base e A n c l) {a : Addr} (ha : A = some a) : a.block < w.heap.size := by
  rcases h.row.2 with ⟨hv, _⟩ | ⟨g, cap, cur, hv, _, hg, _⟩
  · injection hv with hv; rw [hv] at ha; cases ha
  · injection hv with hv
    rw [hv] at ha
    injection ha with ha
    subst ha
    exact (Array.getElem?_eq_some_iff.1 hg).1
theorem rsbuild_no (p : Pkt) (X1 : Option Addr) (m1 j1 : Nat) (X2 : Option Addr) (m2 j2 : Nat) (s : Seg) (OA : Option Addr) (on oc : Nat) (DA : Option Addr) (dn dc : Nat) (w : World) (K : Os w OA on oc s.opts) (hok : okOs s.opts = false) :
    Calls Try.prog 19 #[(.agg #[.int .u8 (p).tos, .int .u16 (p).id, .bool (p).keep, .int .u8 (p).ttl, .int .u8 (p).proto, .int .u32 (p).src, .int .u32 (p).dst, .slice X1 m1 j1, .slice X2 m2 j2]), (.agg #[.int .u16 (s).src, .int .u16 (s).dst, .int .u32 (s).seq, .int .u32 (s).ack, .int .u8 (s).flags, .int .u16 (s).win, .int .u16 (s).urg, .slice OA on oc, .slice DA dn dc])] w (WiPost w zP 4) := by
  have hro : ∀ W, Below w.heap.size w W → Calls Try.prog 36 #[.slice OA on oc] W fun e w' => ∃ A n c, e = .returned (.tuple #[.slice A n c, .bool false]) ∧ Below W.heap.size W w' := fun W hB => by
    refine (ropts_any OA on oc s.opts W (K.below hB)).mono ?_
    rintro e w' ⟨A, n, c, rfl, -, hB'⟩
    rw [hok]
    exact ⟨A, n, c, rfl, hB'⟩
  clear hok K
  obtain ⟨k, hk⟩ : ∃ k : Nat, w.heap.size = k := ⟨_, rfl⟩
  obtain ⟨w1, hw1⟩ : ∃ W, (((w.alloc (.cells #[.int .u8 (p).tos, .int .u16 (p).id, .bool (p).keep, .int .u8 (p).ttl, .int .u8 (p).proto, .int .u32 (p).src, .int .u32 (p).dst, .slice X1 m1 j1, .slice X2 m2 j2] 26)).alloc (.cells #[.int .u16 (s).src, .int .u16 (s).dst, .int .u32 (s).seq, .int .u32 (s).ack, .int .u8 (s).flags, .int .u16 (s).win, .int .u16 (s).urg, .slice OA on oc, .slice DA dn dc] 42)).alloc (.cells #[.int .u8 0, .int .u16 0, .bool false, .int .u8 0, .int .u8 0, .int .u32 0, .int .u32 0, .slice none 0 0, .slice none 0 0] 26)) = W := ⟨_, rfl⟩
  have P1 : Blk w1 k #[.int .u8 (p).tos, .int .u16 (p).id, .bool (p).keep, .int .u8 (p).ttl, .int .u8 (p).proto, .int .u32 (p).src, .int .u32 (p).dst, .slice X1 m1 j1, .slice X2 m2 j2] 26 := by rw [← hw1]; exact (((blk_new _ _ _ k (by simp [hk])).alloc _).alloc _)
  have S1 : Blk w1 (k + 1) #[.int .u16 (s).src, .int .u16 (s).dst, .int .u32 (s).seq, .int .u32 (s).ack, .int .u8 (s).flags, .int .u16 (s).win, .int .u16 (s).urg, .slice OA on oc, .slice DA dn dc] 42 := by rw [← hw1]; exact ((blk_new _ _ _ (k + 1) (by simp [hk])).alloc _)
  have Z1 : Blk w1 (k + 1 + 1) #[.int .u8 0, .int .u16 0, .bool false, .int .u8 0, .int .u8 0, .int .u32 0, .int .u32 0, .slice none 0 0, .slice none 0 0] 26 := by rw [← hw1]; exact (blk_new _ _ _ (k + 1 + 1) (by simp [hk]))
  have R1 : Below w.heap.size w w1 := by rw [← hw1]; (repeat (first | with_reducible exact Below.refl _ _ | with_reducible refine below_drew ?_ | with_reducible refine below_drewN ?_ _ | with_reducible refine below_alloc ?_ (Nat.le_refl _) _ | with_reducible refine Below.setCell ?_ (by first | exact Nat.le_refl _ | (simp only []; omega)) _ | with_reducible assumption))
  have Pc1 := P1.cell
  have Sc1 := S1.cell
  have Zc1 := Z1.cell
  have Pl1 := P1.lt
  have Sl1 := S1.lt
  have Zl1 := Z1.lt
  go_enter Try.func19, Try.ntmps19
  go_wp2_with (go_at_call 36; ((with_reducible refine (hro w1 R1).mono ?_); rintro e w2 ⟨A2, n2, c2, rfl, hB2⟩); have P2 := P1.below hB2; have Pc2 := P2.cell; clear Pc1; have S2 := S1.below hB2; have Sc2 := S2.cell; clear Sc1; have Z2 := Z1.below hB2; have Zc2 := Z2.cell; clear Zc1; have R2 := below_then R1 hB2)
  obtain ⟨wh, hwh, Sh⟩ := store9 Z2 (.int .u8 0) (.int .u16 0) (.bool false) (.int .u8 0) (.int .u8 0) (.int .u32 0) (.int .u32 0) (.slice none 0 0) (.slice none 0 0)
  rw [hwh]
  have ph := Sh.blk.cell
  exact bodyPost_ret (by simp [results, Try.results19, go_sem, ph]) rfl (wiPost_no (Sh.bel R2 (by omega)))
theorem sL_of2 (s : Seg) (x : Int) (hx : ((20 + (optL s.opts).length : Nat) : Int) / 4 * 16 = x) : ((((((((([] ++ two s.src) ++ two s.dst) ++ four s.seq) ++ four s.ack) ++ [ub x, ub s.flags]) ++ two s.win) ++ [0, 0]) ++ two s.urg) ++ optL s.opts) ++ s.dat = sL s := by
  subst hx; rfl
theorem rsbuild_yes (p : Pkt) (hp : p.Ok) (X1 : Option Addr) (m1 j1 : Nat) (X2 : Option Addr) (m2 j2 : Nat) (s : Seg) (hs : s.Ok) (OA : Option Addr) (on oc : Nat) (DA : Option Addr) (dn dc : Nat) (w : World) (k1 : Bs w X1 m1 j1 p.opt) (K : Os w OA on oc s.opts) (kd : Bs w DA dn dc s.dat) (hdn : dn ≤ 140737488400000) (hok : okOs s.opts = true) :
    Calls Try.prog 19 #[(.agg #[.int .u8 (p).tos, .int .u16 (p).id, .bool (p).keep, .int .u8 (p).ttl, .int .u8 (p).proto, .int .u32 (p).src, .int .u32 (p).dst, .slice X1 m1 j1, .slice X2 m2 j2]), (.agg #[.int .u16 (s).src, .int .u16 (s).dst, .int .u32 (s).seq, .int .u32 (s).ack, .int .u8 (s).flags, .int .u16 (s).win, .int .u16 (s).urg, .slice OA on oc, .slice DA dn dc])] w (WiPost w (sbP p s) (sbE p s)) := by
  obtain ⟨⟨a0, a1⟩, ⟨d0, d1⟩, ⟨q0, q1⟩, ⟨r0, r1⟩, ⟨f0, f1⟩, ⟨v0, v1⟩, ⟨g0, g1⟩, -⟩ := hs
  have HOK := Lib.hid hok
  obtain ⟨on2, hon2⟩ : ∃ n, (optL s.opts).length = n := ⟨_, rfl⟩
  have ho1 := okOs_len hok
  have ho2 := (optL_len s.opts).2
  rw [hon2] at ho1 ho2
  have bd := kd.max
  have hro : ∀ W, Below w.heap.size w W → Calls Try.prog 36 #[.slice OA on oc] W fun e w' => ∃ A c, e = .returned (.tuple #[.slice A on2 c, .bool true]) ∧ Own w' W.heap.size 5 A on2 c (optL s.opts) ∧ Below W.heap.size W w' := fun W hB => by
    refine (ropts_any OA on oc s.opts W (K.below hB)).mono ?_
    rintro e w' ⟨A, n, c, rfl, ho, hB'⟩
    have h1 := ho hok
    obtain rfl : n = on2 := by rw [← h1.len]; exact hon2
    rw [hok]
    exact ⟨A, c, rfl, h1, hB'⟩
  have hx := sL_of2 s _ rfl
  rw [hon2] at hx
  obtain ⟨x, hxe⟩ : ∃ x, ((20 + on2 : Nat) : Int) / 4 * 16 = x := ⟨_, rfl⟩
  rw [hxe] at hx
  have HX := Lib.hid hx
  have x0 : 0 ≤ x := by omega
  have x1 : x ≤ 255 := by omega
  obtain ⟨y, hy⟩ : ∃ y : Int, 20 + (on2 : Int) = y := ⟨_, rfl⟩
  have y0 : 0 ≤ y := by omega
  have hq0 : IntKind.i64.wrap (20 + (on2 : Int)) = y := by rw [IntKind.wrap_i64]; omega
  obtain ⟨z, hz⟩ : ∃ z : Int, y / 4 = z := ⟨_, rfl⟩
  have hq1 : wrap64 (y.tdiv 4) = z := by rw [Int.tdiv_eq_ediv_of_nonneg y0, hz]; unfold wrap64; omega
  have hq2 : wrap64 (z * 16) = x := by rw [show z * 16 = x from by omega]; unfold wrap64; omega
  have hq3 : x % 256 = x := by omega
  have HZZ := Lib.hid hz
  clear hz
  have hon40 : on2 ≤ 40 := ho1
  have HON := Lib.hid hon2
  have HX2 := Lib.hid hxe
  have HY := Lib.hid hy
  clear hok K hx hxe hy hon2 ho1 ho2
  have LX := fun W => (lit2 (e := 5) x0 x1 f0 f1 W).bs
  obtain ⟨k, hk⟩ : ∃ k : Nat, w.heap.size = k := ⟨_, rfl⟩
  obtain ⟨w1, hw1⟩ : ∃ W, (((w.alloc (.cells #[.int .u8 (p).tos, .int .u16 (p).id, .bool (p).keep, .int .u8 (p).ttl, .int .u8 (p).proto, .int .u32 (p).src, .int .u32 (p).dst, .slice X1 m1 j1, .slice X2 m2 j2] 26)).alloc (.cells #[.int .u16 (s).src, .int .u16 (s).dst, .int .u32 (s).seq, .int .u32 (s).ack, .int .u8 (s).flags, .int .u16 (s).win, .int .u16 (s).urg, .slice OA on oc, .slice DA dn dc] 42)).alloc (.cells #[.int .u8 0, .int .u16 0, .bool false, .int .u8 0, .int .u8 0, .int .u32 0, .int .u32 0, .slice none 0 0, .slice none 0 0] 26)) = W := ⟨_, rfl⟩
  have P1 : Blk w1 k #[.int .u8 (p).tos, .int .u16 (p).id, .bool (p).keep, .int .u8 (p).ttl, .int .u8 (p).proto, .int .u32 (p).src, .int .u32 (p).dst, .slice X1 m1 j1, .slice X2 m2 j2] 26 := by rw [← hw1]; exact (((blk_new _ _ _ k (by simp [hk])).alloc _).alloc _)
  have S1 : Blk w1 (k + 1) #[.int .u16 (s).src, .int .u16 (s).dst, .int .u32 (s).seq, .int .u32 (s).ack, .int .u8 (s).flags, .int .u16 (s).win, .int .u16 (s).urg, .slice OA on oc, .slice DA dn dc] 42 := by rw [← hw1]; exact ((blk_new _ _ _ (k + 1) (by simp [hk])).alloc _)
  have Z1 : Blk w1 (k + 1 + 1) #[.int .u8 0, .int .u16 0, .bool false, .int .u8 0, .int .u8 0, .int .u32 0, .int .u32 0, .slice none 0 0, .slice none 0 0] 26 := by rw [← hw1]; exact (blk_new _ _ _ (k + 1 + 1) (by simp [hk]))
  have R1 : Below w.heap.size w w1 := by rw [← hw1]; (repeat (first | with_reducible exact Below.refl _ _ | with_reducible refine below_drew ?_ | with_reducible refine below_drewN ?_ _ | with_reducible refine below_alloc ?_ (Nat.le_refl _) _ | with_reducible refine Below.setCell ?_ (by first | exact Nat.le_refl _ | (simp only []; omega)) _ | with_reducible assumption))
  have Pc1 := P1.cell
  have Sc1 := S1.cell
  have Zc1 := Z1.cell
  have Pl1 := P1.lt
  have Sl1 := S1.lt
  have Zl1 := Z1.lt
  have xx1 := (k1).below R1
  have yy1 := (kd).below R1
  go_enter Try.func19, Try.ntmps19
  go_wp2_with (go_at_call 36; ((with_reducible refine (hro w1 R1).mono ?_); rintro e w2 ⟨A2, c2, rfl, o2, hB2⟩); have P2 := P1.below hB2; have Pc2 := P2.cell; clear Pc1; have S2 := S1.below hB2; have Sc2 := S2.cell; clear Sc1; have Z2 := Z1.below hB2; have Zc2 := Z2.cell; clear Zc1; have xx2 := xx1.below hB2; have yy2 := yy1.below hB2; have R2 := below_then R1 hB2)
  have o2b := o2.bs
  have hk1 : w.heap.size ≤ k := Nat.le_of_eq hk
  have hk2 : k ≤ w.heap.size := Nat.le_of_eq hk.symm
  clear hk hw1 hro
  refine region_txt 8 (by kernel_rfl) (by kernel_rfl) ?_; (iterate 8 (first | (apply ObsK.skip (by rfl)) | (apply ObsK.v (by rfl); (intro wo hT; (repeat (first | (intro v hv; (fail)) | (intro _ _ k; try have hcv := cv k))); (have sc := (S2.below hT).cell; have hsz : w2.heap.size ≤ wo.heap.size := hT.size); refine Goes.mk ?_; first | (exact goes_app _ _ rfl rfl (own_nil _ w2.heap.size _) rfl (by assumption) (by omega) hsz) | (go_simp; first | exact goes_v | exact goes_b (by assumption) | fail | (refine goes_enter ?_; first | (go_at_call 35; ((with_reducible refine (two_any s.src a0 a1 wo).mono ?_); rintro e w9 ⟨A9, c9, rfl, ho9, hB9⟩); exact ret_b ho9.bs hB9) | (go_at_call 35; ((with_reducible refine (two_any s.dst d0 d1 wo).mono ?_); rintro e w9 ⟨A9, c9, rfl, ho9, hB9⟩); exact ret_b ho9.bs hB9))))) | (apply ObsK.b (by rfl); (intro wo hT; (repeat (first | (intro v hv; (fail)) | (intro _ _ k; try have hcv := cv k))); (have sc := (S2.below hT).cell; have hsz : w2.heap.size ≤ wo.heap.size := hT.size); refine Goes.mk ?_; first | (exact goes_app _ _ rfl rfl (own_nil _ w2.heap.size _) rfl (by assumption) (by omega) hsz) | (go_simp; first | exact goes_v | exact goes_b (by assumption) | fail | (refine goes_enter ?_; first | (go_at_call 35; ((with_reducible refine (two_any s.src a0 a1 wo).mono ?_); rintro e w9 ⟨A9, c9, rfl, ho9, hB9⟩); exact ret_b ho9.bs hB9) | (go_at_call 35; ((with_reducible refine (two_any s.dst d0 d1 wo).mono ?_); rintro e w9 ⟨A9, c9, rfl, ho9, hB9⟩); exact ret_b ho9.bs hB9))))) | (apply ObsK.p (q := isW w2.heap.size ([] ++ two s.src)) (by rfl) st_isW; (intro wo hT; (repeat (first | (intro v hv; (fail)) | (intro _ _ k; try have hcv := cv k))); (have sc := (S2.below hT).cell; have hsz : w2.heap.size ≤ wo.heap.size := hT.size); refine Goes.mk ?_; first | (exact goes_app _ _ rfl rfl (own_nil _ w2.heap.size _) rfl (by assumption) (by omega) hsz) | (go_simp; first | exact goes_v | exact goes_b (by assumption) | fail | (refine goes_enter ?_; first | (go_at_call 35; ((with_reducible refine (two_any s.src a0 a1 wo).mono ?_); rintro e w9 ⟨A9, c9, rfl, ho9, hB9⟩); exact ret_b ho9.bs hB9) | (go_at_call 35; ((with_reducible refine (two_any s.dst d0 d1 wo).mono ?_); rintro e w9 ⟨A9, c9, rfl, ho9, hB9⟩); exact ret_b ho9.bs hB9))))))); refine ObsK.nil ?_; intro wz hBz; simp only [finOn, List.drop_succ_cons, List.drop_zero, List.drop_nil]
  rintro A7 c7 k7 v4 ⟨A4, n4, c4, rfl, O4⟩ A3 c3 k3
  go_simp
  have u4 : n4 = 2 := by rw [← O4.len]; rfl
  subst u4
  have S4 := S2.below hBz
  have sc4 := S4.cell
  clear k3
  go_wp2_with (at_builtin; refine wpList_append_bs (w0 := w2) _ rfl _ _ _ rfl w2.heap.size 5 Try.underlying24 info_u8 A4 2 c4 _ rfl O4 A7 2 c7 (two s.dst) rfl k7 hBz (by omega) (by first | exact Nat.le_refl _ | exact Below.size hBz | omega | (simp <;> omega)) ?_; intro A8 n8 c8 w8 O8 hB8 _ hz8; have u8 : 4 = n8 := (by rw [← O8.len]; rfl); subst u8; (obtain ⟨g8, rfl, ge8, gt8⟩ := O8.ptr (by omega)); have S8 := S2.below hB8; have sc8 := S8.cell)
  have sl8 := S2.lt
  have b8 := hB8.size
  refine regionX 8 [4] g8 (fun c W => match c with | 0 => Own W w2.heap.size 5 (some ⟨g8, 0, none⟩) 4 c8 (([] ++ two s.src) ++ two s.dst) | _ + 1 => True) (by kernel_rfl) (by kernel_rfl) (by kernel_rfl) O8 (fun c W W' hj hb => by cases c with | zero => exact Own.below hj hb | succ n => trivial) ?_; (iterate 8 (first | (apply ObsX.skip (by rfl) (by rfl)) | (apply ObsX.v (by rfl) (by rfl); (intro wo hE; (repeat (first | (intro v hv; ((obtain ⟨Aq, cq, rfl, oq, oq'⟩ := hv))) | (intro _ _ k; try have hcv := cv k))); (have sco := (S8.ext hE (by omega)).cell; have hsz2 := hE.size); refine Goes.mk ?_; first | (exact goes_appX _ _ rfl rfl hj (fun k e => by simp [Value.ownBlock] at e; exact e.symm) rfl oq (by omega) (by omega) (fun _ => trivial)) | (go_simp; first | exact goes_v | fail | (refine goes_enter ?_; first | (go_at_call 34; ((with_reducible refine (four_any s.seq q0 q1 wo).mono ?_); rintro e w9 ⟨A9, c9, rfl, ho9, hB9⟩); exact ret_p ⟨_, _, rfl, ho9.bs, fun a e => ⟨by have := ho9.ge a e; omega, by have := ho9.bs; exact own_lt ho9 e⟩⟩ hB9) | (go_at_call 34; ((with_reducible refine (four_any s.ack r0 r1 wo).mono ?_); rintro e w9 ⟨A9, c9, rfl, ho9, hB9⟩); exact ret_p ⟨_, _, rfl, ho9.bs, fun a e => ⟨by have := ho9.ge a e; omega, own_lt ho9 e⟩⟩ hB9))))) | (apply ObsX.p (q := isN g8 4 (four s.seq)) (by rfl) (by rfl) st_isN sx_isN; (intro wo hE; (repeat (first | (intro v hv; ((obtain ⟨Aq, cq, rfl, oq, oq'⟩ := hv))) | (intro _ _ k; try have hcv := cv k))); (have sco := (S8.ext hE (by omega)).cell; have hsz2 := hE.size); refine Goes.mk ?_; first | (exact goes_appX _ _ rfl rfl hj (fun k e => by simp [Value.ownBlock] at e; exact e.symm) rfl oq (by omega) (by omega) (fun _ => trivial)) | (go_simp; first | exact goes_v | fail | (refine goes_enter ?_; first | (go_at_call 34; ((with_reducible refine (four_any s.seq q0 q1 wo).mono ?_); rintro e w9 ⟨A9, c9, rfl, ho9, hB9⟩); exact ret_p ⟨_, _, rfl, ho9.bs, fun a e => ⟨by have := ho9.ge a e; omega, by have := ho9.bs; exact own_lt ho9 e⟩⟩ hB9) | (go_at_call 34; ((with_reducible refine (four_any s.ack r0 r1 wo).mono ?_); rintro e w9 ⟨A9, c9, rfl, ho9, hB9⟩); exact ret_p ⟨_, _, rfl, ho9.bs, fun a e => ⟨by have := ho9.ge a e; omega, own_lt ho9 e⟩⟩ hB9))))) | (apply ObsX.p (q := isN g8 4 (four s.ack)) (by rfl) (by rfl) st_isN sx_isN; (intro wo hE; (repeat (first | (intro v hv; ((obtain ⟨Aq, cq, rfl, oq, oq'⟩ := hv))) | (intro _ _ k; try have hcv := cv k))); (have sco := (S8.ext hE (by omega)).cell; have hsz2 := hE.size); refine Goes.mk ?_; first | (exact goes_appX _ _ rfl rfl hj (fun k e => by simp [Value.ownBlock] at e; exact e.symm) rfl oq (by omega) (by omega) (fun _ => trivial)) | (go_simp; first | exact goes_v | fail | (refine goes_enter ?_; first | (go_at_call 34; ((with_reducible refine (four_any s.seq q0 q1 wo).mono ?_); rintro e w9 ⟨A9, c9, rfl, ho9, hB9⟩); exact ret_p ⟨_, _, rfl, ho9.bs, fun a e => ⟨by have := ho9.ge a e; omega, by have := ho9.bs; exact own_lt ho9 e⟩⟩ hB9) | (go_at_call 34; ((with_reducible refine (four_any s.ack r0 r1 wo).mono ?_); rintro e w9 ⟨A9, c9, rfl, ho9, hB9⟩); exact ret_p ⟨_, _, rfl, ho9.bs, fun a e => ⟨by have := ho9.ge a e; omega, own_lt ho9 e⟩⟩ hB9))))) | (apply ObsX.ev (by rfl) (by rfl); (intro wo hE hj; (repeat (first | (intro v hv; ((obtain ⟨Aq, cq, rfl, oq, oq'⟩ := hv))) | (intro _ _ k; try have hcv := cv k))); (have sco := (S8.ext hE (by omega)).cell; have hsz2 := hE.size); refine GoesX.mk ?_; first | (exact goes_appX _ _ rfl rfl hj (fun k e => by simp [Value.ownBlock] at e; exact e.symm) rfl oq (by omega) (by omega) (fun _ => trivial)) | (go_simp; first | exact goes_v | fail | (refine goes_enter ?_; first | (go_at_call 34; ((with_reducible refine (four_any s.seq q0 q1 wo).mono ?_); rintro e w9 ⟨A9, c9, rfl, ho9, hB9⟩); exact ret_p ⟨_, _, rfl, ho9.bs, fun a e => ⟨by have := ho9.ge a e; omega, by have := ho9.bs; exact own_lt ho9 e⟩⟩ hB9) | (go_at_call 34; ((with_reducible refine (four_any s.ack r0 r1 wo).mono ?_); rintro e w9 ⟨A9, c9, rfl, ho9, hB9⟩); exact ret_p ⟨_, _, rfl, ho9.bs, fun a e => ⟨by have := ho9.ge a e; omega, own_lt ho9 e⟩⟩ hB9))))) | (apply ObsX.ep (q := isN g8 4 (four s.seq)) (by rfl) (by rfl) (by rfl) st_isN; (intro wo hE hj; (repeat (first | (intro v hv; ((obtain ⟨Aq, cq, rfl, oq, oq'⟩ := hv))) | (intro _ _ k; try have hcv := cv k))); (have sco := (S8.ext hE (by omega)).cell; have hsz2 := hE.size); refine GoesX.mk ?_; first | (exact goes_appX _ _ rfl rfl hj (fun k e => by simp [Value.ownBlock] at e; exact e.symm) rfl oq (by omega) (by omega) (fun _ => trivial)) | (go_simp; first | exact goes_v | fail | (refine goes_enter ?_; first | (go_at_call 34; ((with_reducible refine (four_any s.seq q0 q1 wo).mono ?_); rintro e w9 ⟨A9, c9, rfl, ho9, hB9⟩); exact ret_p ⟨_, _, rfl, ho9.bs, fun a e => ⟨by have := ho9.ge a e; omega, by have := ho9.bs; exact own_lt ho9 e⟩⟩ hB9) | (go_at_call 34; ((with_reducible refine (four_any s.ack r0 r1 wo).mono ?_); rintro e w9 ⟨A9, c9, rfl, ho9, hB9⟩); exact ret_p ⟨_, _, rfl, ho9.bs, fun a e => ⟨by have := ho9.ge a e; omega, own_lt ho9 e⟩⟩ hB9))))) | (apply ObsX.ep (q := isW w2.heap.size ((([] ++ two s.src) ++ two s.dst) ++ four s.seq)) (by rfl) (by rfl) (by rfl) st_isW; (intro wo hE hj; (repeat (first | (intro v hv; ((obtain ⟨Aq, cq, rfl, oq, oq'⟩ := hv))) | (intro _ _ k; try have hcv := cv k))); (have sco := (S8.ext hE (by omega)).cell; have hsz2 := hE.size); refine GoesX.mk ?_; first | (exact goes_appX _ _ rfl rfl hj (fun k e => by simp [Value.ownBlock] at e; exact e.symm) rfl oq (by omega) (by omega) (fun _ => trivial)) | (go_simp; first | exact goes_v | fail | (refine goes_enter ?_; first | (go_at_call 34; ((with_reducible refine (four_any s.seq q0 q1 wo).mono ?_); rintro e w9 ⟨A9, c9, rfl, ho9, hB9⟩); exact ret_p ⟨_, _, rfl, ho9.bs, fun a e => ⟨by have := ho9.ge a e; omega, by have := ho9.bs; exact own_lt ho9 e⟩⟩ hB9) | (go_at_call 34; ((with_reducible refine (four_any s.ack r0 r1 wo).mono ?_); rintro e w9 ⟨A9, c9, rfl, ho9, hB9⟩); exact ret_p ⟨_, _, rfl, ho9.bs, fun a e => ⟨by have := ho9.ge a e; omega, own_lt ho9 e⟩⟩ hB9))))) | (apply ObsX.ep (q := isN g8 4 (four s.ack)) (by rfl) (by rfl) (by rfl) st_isN; (intro wo hE hj; (repeat (first | (intro v hv; ((obtain ⟨Aq, cq, rfl, oq, oq'⟩ := hv))) | (intro _ _ k; try have hcv := cv k))); (have sco := (S8.ext hE (by omega)).cell; have hsz2 := hE.size); refine GoesX.mk ?_; first | (exact goes_appX _ _ rfl rfl hj (fun k e => by simp [Value.ownBlock] at e; exact e.symm) rfl oq (by omega) (by omega) (fun _ => trivial)) | (go_simp; first | exact goes_v | fail | (refine goes_enter ?_; first | (go_at_call 34; ((with_reducible refine (four_any s.seq q0 q1 wo).mono ?_); rintro e w9 ⟨A9, c9, rfl, ho9, hB9⟩); exact ret_p ⟨_, _, rfl, ho9.bs, fun a e => ⟨by have := ho9.ge a e; omega, by have := ho9.bs; exact own_lt ho9 e⟩⟩ hB9) | (go_at_call 34; ((with_reducible refine (four_any s.ack r0 r1 wo).mono ?_); rintro e w9 ⟨A9, c9, rfl, ho9, hB9⟩); exact ret_p ⟨_, _, rfl, ho9.bs, fun a e => ⟨by have := ho9.ge a e; omega, own_lt ho9 e⟩⟩ hB9))))))); refine ObsX.nil ?_; intro wz hEz hJz; simp only [finOn, List.drop_succ_cons, List.drop_zero, List.drop_nil]
  rintro v12 ⟨A12, c12, rfl, k12, -⟩ v10 ⟨A10, n10, c10, rfl, O10⟩ v9 hv9
  clear hv9
  go_simp
  have u10 : n10 = 8 := by rw [← O10.len]; rfl
  subst u10
  have hBy := below_ext hB8 hEz (by omega) hB8.size
  have S10 := S2.below hBy
  have sc10 := S10.cell
  clear sc8 sc4
  go_wp2_with (first
    | (at_builtin; refine wpList_append_bs (w0 := w2) _ rfl _ _ _ rfl w2.heap.size 5 Try.underlying24 info_u8 A10 8 c10 _ rfl O10 A12 4 c12 (four s.ack) rfl k12 hBy (by omega) (by first | exact Nat.le_refl _ | exact Below.size hBy | omega | (simp <;> omega)) ?_; intro A14 n14 c14 w14 O14 hB14 _ hz14; have u14 : 12 = n14 := (by rw [← O14.len]; rfl); subst u14; have S14 := S2.below hB14; have sc14 := S14.cell)
    | (at_builtin; refine wpList_append_bs (w0 := w2) _ rfl _ _ _ rfl w2.heap.size 5 Try.underlying24 info_u8 A14 12 c14 _ rfl (O14.alloc _) (some ⟨_, 0, none⟩) 2 2 _ rfl (LX w14) (hB14.alloc hB14.size _) (by omega) (by first | exact Nat.le_refl _ | exact Below.size (hB14.alloc hB14.size _) | omega | (simp <;> omega)) ?_; intro A15 n15 c15 w15 O15 hB15 _ hz15; have u15 : 14 = n15 := (by rw [← O15.len]; rfl); subst u15; have S15 := S2.below hB15; have sc15 := S15.cell)
    | (go_at_call 35; ((with_reducible refine (two_any s.win v0 v1 w15).mono ?_); rintro e w16 ⟨A16, c16, rfl, o16, hB16⟩); have O15' := O15.below hB16; have T16 := below_then hB15 hB16)
    | (at_builtin; refine wpList_append_bs (w0 := w2) _ rfl _ _ _ rfl w2.heap.size 5 Try.underlying24 info_u8 A15 14 c15 _ rfl O15' A16 2 c16 (two s.win) rfl o16.bs T16 (by omega) (by first | exact Nat.le_refl _ | exact Below.size T16 | omega | (simp <;> omega)) ?_; intro A17 n17 c17 w17 O17 hB17 _ hz17; have u17 : 16 = n17 := (by rw [← O17.len]; rfl); subst u17)
    | (at_builtin; refine wpList_append_bs (w0 := w2) _ rfl _ _ _ rfl w2.heap.size 5 Try.underlying24 info_u8 A17 16 c17 _ rfl (O17.alloc _) (some ⟨_, 0, none⟩) 2 2 _ rfl (bs00 w17) (hB17.alloc hB17.size _) (by omega) (by first | exact Nat.le_refl _ | exact Below.size (hB17.alloc hB17.size _) | omega | (simp <;> omega)) ?_; intro A18 n18 c18 w18 O18 hB18 _ hz18; have u18 : 18 = n18 := (by rw [← O18.len]; rfl); subst u18; have S18 := S2.below hB18; have sc18 := S18.cell)
    | (go_at_call 35; ((with_reducible refine (two_any s.urg g0 g1 w18).mono ?_); rintro e w19 ⟨A19, c19, rfl, o19, hB19⟩); have O18' := O18.below hB19; have T19 := below_then hB18 hB19)
    | (at_builtin; refine wpList_append_bs (w0 := w2) _ rfl _ _ _ rfl w2.heap.size 5 Try.underlying24 info_u8 A18 18 c18 _ rfl O18' A19 2 c19 (two s.urg) rfl o19.bs T19 (by omega) (by first | exact Nat.le_refl _ | exact Below.size T19 | omega | (simp <;> omega)) ?_; intro A20 n20 c20 w20 O20 hB20 _ hz20; have u20 : 20 = n20 := (by rw [← O20.len]; rfl); subst u20; have o20 := o2b.below hB20)
    | (at_builtin; refine wpList_append_bs (w0 := w2) _ rfl _ _ _ rfl w2.heap.size 5 Try.underlying24 info_u8 A20 20 c20 _ rfl O20 A2 on2 c2 _ rfl o20 hB20 (by omega) (by first | exact Nat.le_refl _ | exact Below.size hB20 | omega | (simp <;> omega)) ?_; intro A21 n21 c21 w21 O21 hB21 _ hz21; have S21 := S2.below hB21; have sc21 := S21.cell; have d21 := yy2.below hB21; have u21 : n21 ≤ 60 := (by have h1 := O21.len; have h2 := HON.out; rw [List.length_append] at h1; have h3 := O20.len; omega))
    | (at_builtin; refine wpList_append_bs (w0 := w2) _ rfl _ _ _ rfl w2.heap.size 5 Try.underlying24 info_u8 A21 n21 c21 _ rfl O21 DA dn dc _ rfl d21 hB21 (by omega) (by first | exact Nat.le_refl _ | exact Below.size hB21 | omega | (simp <;> omega)) ?_; intro A22 n22 c22 w22 O22 hB22 _ hz22; rw [HX.out] at O22; have P22 := P2.below hB22; have pc22 := P22.cell; have Z22 := Z2.below hB22))
  have xx22 := xx2.below hB22
  have R22 := below_then R2 hB22
  have hN : n22 = sN s := by rw [← O22.len, sL_len]
  have hsE : sbE p s = wiE p n22 := by unfold sbE; rw [HOK.out, if_pos rfl, hN]
  have l1 := k1.len
  have b22 := R22.size
  by_cases hbad : 40 < (m1 : Int) ∨ m1 % 4 ≠ 0
  · have HE : Hid (sbE p s = 4) := by unfold Hid; rw [hsE]; exact wiE_4 l1 hbad
    have HP : Hid (sbP p s = zP) := by unfold Hid sbP; rw [HE.out]; rfl
    have hw0 : ∀ W, Bs W X1 m1 j1 p.opt → Calls Try.prog 37 #[(.agg #[.int .u8 (p).tos, .int .u16 (p).id, .bool (p).keep, .int .u8 (p).ttl, .int .u8 (p).proto, .int .u32 (p).src, .int .u32 (p).dst, .slice X1 m1 j1, .slice X2 m2 j2]), .int .u8 6, .slice none 0 0] W (fun e w' => ∃ C1 e1 f1 C2 e2 f2, e = .returned (.tuple #[.agg #[.int .u8 0, .int .u16 0, .bool false, .int .u8 0, .int .u8 0, .int .u32 0, .int .u32 0, .slice C1 e1 f1, .slice C2 e2 f2], .int .i64 4]) ∧ Own w' W.heap.size 5 C1 e1 f1 [] ∧ Own w' W.heap.size 5 C2 e2 f2 [] ∧ Below W.heap.size W w') := fun W kk => by
      have hh := rwith_any p X1 m1 j1 X2 m2 j2 6 none 0 0 [] W kk (Bs.none_ W)
      unfold withP at hh
      rw [wiE_4 l1 hbad, if_neg (by decide)] at hh
      exact hh.mono fun e w' hq => hq.out
    clear hbad hN hsE l1 hp
    go_wp2_with (go_at_call 37; ((with_reducible refine (hw0 w22 xx22).mono ?_); rintro e w23 ⟨C1, e1, f1, C2, e2, f2, rfl, O1, O2, hB23⟩); (obtain ⟨w24, hw24⟩ : ∃ W, w23.alloc (.cells #[.int .u8 0, .int .u16 0, .bool false, .int .u8 0, .int .u8 0, .int .u32 0, .int .u32 0, .slice C1 e1 f1, .slice C2 e2 f2] 26) = W := ⟨_, rfl⟩); have V24 : Below w23.heap.size w23 w24 := (by rw [← hw24]; (repeat (first | with_reducible exact Below.refl _ _ | with_reducible refine below_drew ?_ | with_reducible refine below_drewN ?_ _ | with_reducible refine below_alloc ?_ (Nat.le_refl _) _ | with_reducible refine Below.setCell ?_ (by first | exact Nat.le_refl _ | (simp only []; omega)) _ | with_reducible assumption))); have T24 := below_then hB23 V24; have Q24 : Blk w24 w23.heap.size #[.int .u8 0, .int .u16 0, .bool false, .int .u8 0, .int .u8 0, .int .u32 0, .int .u32 0, .slice C1 e1 f1, .slice C2 e2 f2] 26 := (by rw [← hw24]; exact blk_new w23 _ _ _ rfl); have qc24 := Q24.cell; have P24 := P22.below T24; have pc24 := P24.cell; have Z24 := Z22.below T24; have zc24 := Z24.cell; have O24 := O22.below T24)
    obtain ⟨wf, hwf, Sf⟩ := store9 Z24 (.int .u8 0) (.int .u16 0) (.bool false) (.int .u8 0) (.int .u8 0) (.int .u32 0) (.int .u32 0) (.slice none 0 0) (.slice none 0 0)
    rw [hwf]
    have pf := Sf.blk.cell
    exact bodyPost_ret (v := .tuple #[.agg #[.int .u8 0, .int .u16 0, .bool false, .int .u8 0, .int .u8 0, .int .u32 0, .int .u32 0, .slice none 0 0, .slice none 0 0], .int .i64 4]) (by simp [results, Try.results19, go_sem, pf]) rfl (by rw [HE.out, HP.out]; exact wiPost_no (Sf.bel (below_then R22 T24) (by omega)))
  · have h1 : (m1 : Int) ≤ 40 := by omega
    have h2 : m1 % 4 = 0 := by omega
    have hw0 : ∀ W, Bs W X1 m1 j1 p.opt → Calls Try.prog 37 #[(.agg #[.int .u8 (p).tos, .int .u16 (p).id, .bool (p).keep, .int .u8 (p).ttl, .int .u8 (p).proto, .int .u32 (p).src, .int .u32 (p).dst, .slice X1 m1 j1, .slice X2 m2 j2]), .int .u8 6, .slice none 0 0] W (fun e w' => ∃ C1 e1 f1 C2 e2 f2, e = .returned (.tuple #[.agg #[.int .u8 p.tos, .int .u16 p.id, .bool p.keep, .int .u8 p.ttl, .int .u8 6, .int .u32 p.src, .int .u32 p.dst, .slice C1 e1 f1, .slice C2 e2 f2], .int .i64 0]) ∧ Own w' W.heap.size 5 C1 e1 f1 p.opt ∧ Own w' W.heap.size 5 C2 e2 f2 [] ∧ Below W.heap.size W w') := fun W kk => by
      have hh := rwith_any p X1 m1 j1 X2 m2 j2 6 none 0 0 [] W kk (Bs.none_ W)
      unfold withP at hh
      rw [show ([] : List UInt8).length = 0 from rfl, wiE_0 l1 h1 h2 (by omega), if_pos rfl] at hh
      exact hh.mono fun e w' hq => hq.out
    have ho1 : ∀ w' C1 e1 f1, Own w' w22.heap.size 5 C1 e1 f1 p.opt → m1 = e1 := fun w' C1 e1 f1 h => by rw [← h.len]; exact l1.symm
    by_cases h3 : 20 + (m1 : Int) + (n22 : Int) ≤ 65535
    · have HE : Hid (sbE p s = 0) := by unfold Hid; rw [hsE]; exact wiE_0 l1 h1 h2 (by omega)
      have HP : Hid (sbP p s = { p with proto := 6, dat := sS p s }) := by unfold Hid sbP; rw [if_pos HE.out]
      have HS : Hid (put16 (sL s) 16 (psum p 6 (sL s)) = sS p s) := rfl
      obtain ⟨zz, hzz⟩ : ∃ z, psum p 6 (sL s) = z := ⟨_, rfl⟩
      have zz0 : 0 ≤ zz := by rw [← hzz]; exact csum_lo _
      have zz1 : zz ≤ 65535 := by rw [← hzz]; exact csum_hi _
      rw [hzz] at HS
      have hsum : ∀ W, Bs W A22 n22 c22 (sL s) → Calls Try.prog 39 #[(.agg #[.int .u8 (p).tos, .int .u16 (p).id, .bool (p).keep, .int .u8 (p).ttl, .int .u8 (p).proto, .int .u32 (p).src, .int .u32 (p).dst, .slice X1 m1 j1, .slice X2 m2 j2]), .int .u8 6, .slice A22 n22 c22] W fun e w' => e = .returned (.int .u16 zz) ∧ Below W.heap.size W w' := fun W bo => by
        have := rssum_any p hp X1 m1 j1 X2 m2 j2 6 (by omega) (by omega) A22 n22 c22 (sL s) W bo (by omega)
        rw [← hzz]
        exact this
      have hw1' : ∀ W A n c, Bs W X1 m1 j1 p.opt → Bs W A n c (sS p s) → Calls Try.prog 37 #[(.agg #[.int .u8 (p).tos, .int .u16 (p).id, .bool (p).keep, .int .u8 (p).ttl, .int .u8 (p).proto, .int .u32 (p).src, .int .u32 (p).dst, .slice X1 m1 j1, .slice X2 m2 j2]), .int .u8 6, .slice A n c] W (fun e w' => ∃ C1 e1 f1 C2 e2 f2, e = .returned (.tuple #[.agg #[.int .u8 p.tos, .int .u16 p.id, .bool p.keep, .int .u8 p.ttl, .int .u8 6, .int .u32 p.src, .int .u32 p.dst, .slice C1 e1 f1, .slice C2 e2 f2], .int .i64 0]) ∧ Own w' W.heap.size 5 C1 e1 f1 p.opt ∧ Own w' W.heap.size 5 C2 e2 f2 (sS p s) ∧ Below W.heap.size W w') := fun W A n c kk ks => by
        have hh := rwith_any p X1 m1 j1 X2 m2 j2 6 A n c (sS p s) W kk ks
        unfold withP at hh
        rw [sS_len, ← hN, wiE_0 l1 h1 h2 (by omega), if_pos rfl] at hh
        exact hh.mono fun e w' hq => hq.out
      clear hbad hN hsE l1 hp hzz
      go_wp2_with (first
        | (go_at_call 37; ((with_reducible refine (hw0 w22 xx22).mono ?_); rintro e w23 ⟨C1, e1, f1, C2, e2, f2, rfl, O1, O2, hB23⟩); have ue := ho1 _ _ _ _ O1; subst ue; (obtain ⟨w24, hw24⟩ : ∃ W, w23.alloc (.cells #[.int .u8 p.tos, .int .u16 p.id, .bool p.keep, .int .u8 p.ttl, .int .u8 6, .int .u32 p.src, .int .u32 p.dst, .slice C1 m1 f1, .slice C2 e2 f2] 26) = W := ⟨_, rfl⟩); have V24 : Below w23.heap.size w23 w24 := (by rw [← hw24]; (repeat (first | with_reducible exact Below.refl _ _ | with_reducible refine below_drew ?_ | with_reducible refine below_drewN ?_ _ | with_reducible refine below_alloc ?_ (Nat.le_refl _) _ | with_reducible refine Below.setCell ?_ (by first | exact Nat.le_refl _ | (simp only []; omega)) _ | with_reducible assumption))); have T24 := below_then hB23 V24; have Q24 : Blk w24 w23.heap.size #[.int .u8 p.tos, .int .u16 p.id, .bool p.keep, .int .u8 p.ttl, .int .u8 6, .int .u32 p.src, .int .u32 p.dst, .slice C1 m1 f1, .slice C2 e2 f2] 26 := (by rw [← hw24]; exact blk_new w23 _ _ _ rfl); have qc24 := Q24.cell; have P24 := P22.below T24; have pc24 := P24.cell; have Z24 := Z22.below T24; have zc24 := Z24.cell; have O24 := O22.below T24; have O24b := O24.bs; have P25 := P22.below T24)
        | (go_at_call 39; ((with_reducible refine (hsum w24 O24b).mono ?_); rintro e w25 ⟨rfl, hB25⟩); have T25 := below_then T24 hB25; have P25 := P22.below T25; have pc25 := P25.cell; have O25 := (O24.below hB25).bs)
        | (go_at_call 38; ((with_reducible refine (rput16_any A22 n22 c22 (sL s) 16 zz zz0 zz1 _ O25).mono ?_); rintro e w26 ⟨A26, c26, rfl, O26, hB26⟩); rw [HS.out] at O26; have O26b := O26.bs; have T26 := below_then T25 hB26; have P26 := P22.below T26; have pc26 := P26.cell; have xx26 := xx22.below T26)
        | (go_at_call 37; ((with_reducible refine (hw1' w26 A26 n22 c26 xx26 O26b).mono ?_); rintro e w27 ⟨D1, g1', h1', D2, g2', h2', rfl, O13, O14, hB27⟩); have T27 := below_then T26 hB27; have Z27 := Z22.below T27; have zc27 := Z27.cell))
      obtain ⟨wf, hwf, Sf⟩ := store9 Z27 (.int .u8 p.tos) (.int .u16 p.id) (.bool p.keep) (.int .u8 p.ttl) (.int .u8 6) (.int .u32 p.src) (.int .u32 p.dst) (.slice D1 g1' h1') (.slice D2 g2' h2')
      rw [hwf]
      have pf := Sf.blk.cell
      have z22 := Z22.lt
      have t26 := T26.size
      have Of := Sf.own O13 (fun a e => by have := O13.ge a e; omega)
      have Df := Sf.own O14 (fun a e => by have := O14.ge a e; omega)
      exact bodyPost_ret (v := .tuple #[.agg #[.int .u8 p.tos, .int .u16 p.id, .bool p.keep, .int .u8 p.ttl, .int .u8 6, .int .u32 p.src, .int .u32 p.dst, .slice D1 g1' h1', .slice D2 g2' h2'], .int .i64 0]) (by simp [results, Try.results19, go_sem, pf]) rfl (by rw [HE.out, HP.out]; exact ⟨⟨D1, g1', h1', D2, g2', h2', rfl, Of.mono (by omega), Df.mono (by omega), Sf.bel (below_then R22 T27) (by omega)⟩⟩)
    · have HE : Hid (sbE p s = 8) := by unfold Hid; rw [hsE]; exact wiE_8 l1 h1 h2 (by omega)
      have HP : Hid (sbP p s = zP) := by unfold Hid sbP; rw [HE.out]; rfl
      have h3' : 65535 < 20 + (m1 : Int) + (n22 : Int) := by omega
      have n22b : n22 ≤ 200000000000000 := O22.max
      clear hbad hN hsE l1 hp h3
      go_wp2_with (go_at_call 37; ((with_reducible refine (hw0 w22 xx22).mono ?_); rintro e w23 ⟨C1, e1, f1, C2, e2, f2, rfl, O1, O2, hB23⟩); have ue := ho1 _ _ _ _ O1; subst ue; (obtain ⟨w24, hw24⟩ : ∃ W, w23.alloc (.cells #[.int .u8 p.tos, .int .u16 p.id, .bool p.keep, .int .u8 p.ttl, .int .u8 6, .int .u32 p.src, .int .u32 p.dst, .slice C1 m1 f1, .slice C2 e2 f2] 26) = W := ⟨_, rfl⟩); have V24 : Below w23.heap.size w23 w24 := (by rw [← hw24]; (repeat (first | with_reducible exact Below.refl _ _ | with_reducible refine below_drew ?_ | with_reducible refine below_drewN ?_ _ | with_reducible refine below_alloc ?_ (Nat.le_refl _) _ | with_reducible refine Below.setCell ?_ (by first | exact Nat.le_refl _ | (simp only []; omega)) _ | with_reducible assumption))); have T24 := below_then hB23 V24; have Q24 : Blk w24 w23.heap.size #[.int .u8 p.tos, .int .u16 p.id, .bool p.keep, .int .u8 p.ttl, .int .u8 6, .int .u32 p.src, .int .u32 p.dst, .slice C1 m1 f1, .slice C2 e2 f2] 26 := (by rw [← hw24]; exact blk_new w23 _ _ _ rfl); have qc24 := Q24.cell; have P24 := P22.below T24; have pc24 := P24.cell; have Z24 := Z22.below T24; have zc24 := Z24.cell; have O24 := O22.below T24; have O24b := O24.bs)
      obtain ⟨wf, hwf, Sf⟩ := store9 Z24 (.int .u8 0) (.int .u16 0) (.bool false) (.int .u8 0) (.int .u8 0) (.int .u32 0) (.int .u32 0) (.slice none 0 0) (.slice none 0 0)
      rw [hwf]
      have pf := Sf.blk.cell
      exact bodyPost_ret (v := .tuple #[.agg #[.int .u8 0, .int .u16 0, .bool false, .int .u8 0, .int .u8 0, .int .u32 0, .int .u32 0, .slice none 0 0, .slice none 0 0], .int .i64 8]) (by simp [results, Try.results19, go_sem, pf]) rfl (by rw [HE.out, HP.out]; exact wiPost_no (Sf.bel (below_then R22 T24) (by omega)))
theorem rsbuild_any (p : Pkt) (hp : p.Ok) (X1 : Option Addr) (m1 j1 : Nat) (X2 : Option Addr) (m2 j2 : Nat) (s : Seg) (hs : s.Ok) (OA : Option Addr) (on oc : Nat) (DA : Option Addr) (dn dc : Nat) (w : World) (k1 : Bs w X1 m1 j1 p.opt) (K : Os w OA on oc s.opts) (kd : Bs w DA dn dc s.dat) (hdn : dn ≤ 140737488400000) :
    Calls Try.prog 19 #[(.agg #[.int .u8 (p).tos, .int .u16 (p).id, .bool (p).keep, .int .u8 (p).ttl, .int .u8 (p).proto, .int .u32 (p).src, .int .u32 (p).dst, .slice X1 m1 j1, .slice X2 m2 j2]), (.agg #[.int .u16 (s).src, .int .u16 (s).dst, .int .u32 (s).seq, .int .u32 (s).ack, .int .u8 (s).flags, .int .u16 (s).win, .int .u16 (s).urg, .slice OA on oc, .slice DA dn dc])] w (WiPost w (sbP p s) (sbE p s)) := by
  rcases Bool.eq_false_or_eq_true (okOs s.opts) with hok | hok
  · exact rsbuild_yes p hp X1 m1 j1 X2 m2 j2 s hs OA on oc DA dn dc w k1 K kd hdn hok
  · have hE : sbE p s = 4 := by unfold sbE; rw [hok]; rfl
    have hP : sbP p s = zP := by unfold sbP; rw [hE]; rfl
    rw [hE, hP]
    exact rsbuild_no p X1 m1 j1 X2 m2 j2 s OA on oc DA dn dc w K hok
end Go.Proofs.Ythgoffbfgdgkpaa

namespace Go.Proofs.Ythgoffbfgdgkpaa
open Go.RowKit
set_option linter.unusedVariables false
set_option linter.unusedSimpArgs false
set_option linter.unusedSimpArgs false
set_option maxHeartbeats 4000000
set_option maxRecDepth 100000

end Go.Proofs.Ythgoffbfgdgkpaa

namespace Go.Proofs.Ythgoffbfgdgkpaa
open Go.RowKit
set_option linter.unusedVariables false
set_option linter.unusedSimpArgs false
set_option maxHeartbeats 1000000
def aftY (ops : Array Oper) (l : Nat) : Nat → Nat → Bool
  | 0, _ => false
  | f + 1, j => match ops[j]? with
    | some o => o.after.any fun e => Region.binds .any e && (e.on == l || aftY ops l f e.on)
    | none => false
def lastY (ops : Array Oper) (exs : List Nat) (i : Nat) : Bool := lastX exs i || match exs.getLast? with
  | some l => aftY ops l 40 i
  | none => false
def ObsY (P : Program) (ops : Array Oper) (a0 : Act) (w0 : World) (g : Nat) (J : Nat → World → Prop) (exs : List Nat) (fin : List (Tmp × Kd) → Prop) : Nat → Nat → List (Tmp × Kd) → List Oper → Prop
  | _, _, ks, [] => fin ks
  | i, c, ks, o :: rest => ∃ K t, o.dst = some t ∧ (K.Ok ∧ (lastY ops exs i = true ∨ K.OkX g)) ∧ Ob1X P ops a0 w0 g J c (exs.elem i) ks o K ∧ ObsY P ops a0 w0 g J exs fin (i + 1) (bif exs.elem i then c + 1 else c) ((t, K) :: ks) rest
section
variable {P : Program} {ops : Array Oper} {a0 : Act} {w0 : World} {g : Nat} {J : Nat → World → Prop} {exs : List Nat} {fin : List (Tmp × Kd) → Prop} {i c : Nat} {ks : List (Tmp × Kd)} {rest : List Oper}
  {t : Tmp} {op : Op} {ty : TypeId} {pos : String} {after : Array Edge} {gd : Option (Nat × Bool)}
theorem ObsY.v {x : Value} (hx : exs.elem i = false) (hg : wantK ops ks gd = some true) (ho : ∀ W, w0.grownBy W (some g) → leanOn ks W op.operands.toList (Goes P (.v x) ⟨some t, op, ty, pos, after, gd⟩ W) a0)
    (hr : ObsY P ops a0 w0 g J exs fin (i + 1) c ((t, .v x) :: ks) rest) : ObsY P ops a0 w0 g J exs fin i c ks (⟨some t, op, ty, pos, after, gd⟩ :: rest) :=
  ⟨.v x, t, rfl, ⟨trivial, .inr trivial⟩, .inl ⟨hx, hg, ho⟩, by rw [hx]; exact hr⟩
theorem ObsY.p {q : World → Value → Prop} (hx : exs.elem i = false) (hg : wantK ops ks gd = some true) (hkb : ∀ w w' v, q w v → Below w.heap.size w w' → q w' v) (hk : ∀ w w' v, q w v → w.grownBy w' (some g) → q w' v) (ho : ∀ W, w0.grownBy W (some g) → leanOn ks W op.operands.toList (Goes P (.p q) ⟨some t, op, ty, pos, after, gd⟩ W) a0)
    (hr : ObsY P ops a0 w0 g J exs fin (i + 1) c ((t, .p q) :: ks) rest) : ObsY P ops a0 w0 g J exs fin i c ks (⟨some t, op, ty, pos, after, gd⟩ :: rest) :=
  ⟨.p q, t, rfl, ⟨hkb, .inr hk⟩, .inl ⟨hx, hg, ho⟩, by rw [hx]; exact hr⟩
theorem ObsY.ev {x : Value} (hx : exs.elem i = true) (hg : wantK ops ks gd = some true) (ho : ∀ W, w0.grownBy W (some g) → J c W → leanOn ks W op.operands.toList (GoesX P (.v x) g (J (c + 1)) ⟨some t, op, ty, pos, after, gd⟩ W) a0)
    (hr : ObsY P ops a0 w0 g J exs fin (i + 1) (c + 1) ((t, .v x) :: ks) rest) : ObsY P ops a0 w0 g J exs fin i c ks (⟨some t, op, ty, pos, after, gd⟩ :: rest) :=
  ⟨.v x, t, rfl, ⟨trivial, .inr trivial⟩, .inr (.inl ⟨hx, hg, ho⟩), by rw [hx]; exact hr⟩
theorem ObsY.ep {q : World → Value → Prop} (hx : exs.elem i = true) (hg : wantK ops ks gd = some true) (hl : lastY ops exs i = true) (hkb : ∀ w w' v, q w v → Below w.heap.size w w' → q w' v) (ho : ∀ W, w0.grownBy W (some g) → J c W → leanOn ks W op.operands.toList (GoesX P (.p q) g (J (c + 1)) ⟨some t, op, ty, pos, after, gd⟩ W) a0)
    (hr : ObsY P ops a0 w0 g J exs fin (i + 1) (c + 1) ((t, .p q) :: ks) rest) : ObsY P ops a0 w0 g J exs fin i c ks (⟨some t, op, ty, pos, after, gd⟩ :: rest) :=
  ⟨.p q, t, rfl, ⟨hkb, .inl hl⟩, .inr (.inl ⟨hx, hg, ho⟩), by rw [hx]; exact hr⟩
theorem ObsY.skip (hx : exs.elem i = false) (hg : wantK ops ks gd = some false) (hr : ObsY P ops a0 w0 g J exs fin (i + 1) c ((t, .v undef) :: ks) rest) : ObsY P ops a0 w0 g J exs fin i c ks (⟨some t, op, ty, pos, after, gd⟩ :: rest) :=
  ⟨.v undef, t, rfl, ⟨trivial, .inr trivial⟩, .inr (.inr ⟨hx, hg, rfl⟩), by rw [hx]; exact hr⟩
theorem ObsY.nil (h : fin ks) : ObsY P ops a0 w0 g J exs fin i c ks [] := h
end
theorem ObsY.out {P : Program} {ops : Array Oper} {a0 : Act} {w0 : World} {g : Nat} {J : Nat → World → Prop} {exs : List Nat} {fin : List (Tmp × Kd) → Prop} : ∀ {l : List Oper} {i0 : Nat} {ks : List (Tmp × Kd)}, ObsY P ops a0 w0 g J exs fin i0 (czX exs i0) ks l →
    ∃ Ks : Nat → Kd, ∃ kz : Nat → List (Tmp × Kd), kz 0 = ks ∧ fin (kz l.length) ∧ ∀ i o, l[i]? = some o → ∃ t, o.dst = some t ∧ ((Ks i).Ok ∧ (lastY ops exs (i0 + i) = true ∨ (Ks i).OkX g)) ∧ Ob1X P ops a0 w0 g J (czX exs (i0 + i)) (exs.elem (i0 + i)) (kz i) o (Ks i) ∧ kz (i + 1) = (t, Ks i) :: kz i
  | [], i0, ks, h => ⟨fun _ => .v undef, fun _ => ks, rfl, h, fun i o ho => by simp at ho⟩
  | o :: rest, i0, ks, ⟨K, t, hd, hk, hob, hr⟩ => by
    have hr' : ObsY P ops a0 w0 g J exs fin (i0 + 1) (czX exs (i0 + 1)) ((t, K) :: ks) rest := hr
    obtain ⟨Ks, kz, h0, hf, hall⟩ := ObsY.out hr'
    refine ⟨fun i => match i with | 0 => K | i + 1 => Ks i, fun i => match i with | 0 => ks | i + 1 => kz i, rfl, hf, fun i o' ho' => ?_⟩
    cases i with
    | zero =>
      simp only [List.getElem?_cons_zero, Option.some.injEq] at ho'
      subst ho'
      exact ⟨t, hd, hk, hob, h0⟩
    | succ i =>
      have := hall i o' (by simpa using ho')
      rw [show i0 + 1 + i = i0 + (i + 1) from by omega] at this
      exact this
section
variable {P : Program} {Q : Exit → Act → World → Prop}
end
end Go.Proofs.Ythgoffbfgdgkpaa

namespace Go.Proofs.Ythgoffbfgdgkpaa
open Go.RowKit
set_option linter.unusedVariables false
set_option linter.unusedSimpArgs false
set_option linter.unusedSimpArgs false
set_option maxHeartbeats 4000000
set_option maxRecDepth 100000

def dL (d : Dgm) : List UInt8 := ([] ++ twos [d.src, d.dst, (8 + (d.dat.length : Int)) % 65536, 0]) ++ d.dat
def dZ (p : Pkt) (d : Dgm) : Int := if psum p 17 (dL d) = 0 then 65535 else psum p 17 (dL d)
def dS (p : Pkt) (d : Dgm) : List UInt8 := if d.bare then dL d else put16 (dL d) 6 (dZ p d)
def dbE (p : Pkt) (d : Dgm) : Int := wiE p (8 + d.dat.length)
def dbP (p : Pkt) (d : Dgm) : Pkt := withP p 17 (dS p d)
theorem dL_len (d : Dgm) : (dL d).length = 8 + d.dat.length := by simp [dL, twos, two]; omega
theorem dS_len (p : Pkt) (d : Dgm) : (dS p d).length = 8 + d.dat.length := by
  unfold dS; split
  · exact dL_len d
  · rw [put16_length, dL_len]
end Go.Proofs.Ythgoffbfgdgkpaa

namespace Go.Proofs.Ythgoffbfgdgkpaa
open Go.RowKit
set_option linter.unusedVariables false
set_option linter.unusedSimpArgs false
set_option linter.unusedSimpArgs false
set_option maxHeartbeats 4000000
set_option maxRecDepth 100000

theorem rdbuild_any (p : Pkt) (hp : p.Ok) (X1 : Option Addr) (m1 j1 : Nat) (X2 : Option Addr) (m2 j2 : Nat) (s : Dgm) (hs : s.Ok) (DA : Option Addr) (dn dc : Nat) (w : World) (k1 : Bs w X1 m1 j1 p.opt) (kd : Bs w DA dn dc s.dat) :
    Calls Try.prog 20 #[(.agg #[.int .u8 (p).tos, .int .u16 (p).id, .bool (p).keep, .int .u8 (p).ttl, .int .u8 (p).proto, .int .u32 (p).src, .int .u32 (p).dst, .slice X1 m1 j1, .slice X2 m2 j2]), (.agg #[.int .u16 (s).src, .int .u16 (s).dst, .bool (s).bare, .slice DA dn dc])] w (WiPost w (dbP p s) (dbE p s)) := by
  obtain ⟨⟨a0, a1⟩, ⟨d0, d1⟩⟩ := hs
  have ld := kd.len
  have l1 := k1.len
  have bd := kd.max
  have hsE : dbE p s = wiE p (8 + dn) := by unfold dbE; rw [ld]
  by_cases hbad : 40 < (m1 : Int) ∨ m1 % 4 ≠ 0
  · have HE : Hid (dbE p s = 4) := by unfold Hid; rw [hsE]; exact wiE_4 l1 hbad
    have HP : Hid (dbP p s = zP) := by unfold Hid dbP withP; rw [dS_len, ld, wiE_4 l1 hbad]; rfl
    have hw0 : ∀ W, Bs W X1 m1 j1 p.opt → Calls Try.prog 37 #[(.agg #[.int .u8 (p).tos, .int .u16 (p).id, .bool (p).keep, .int .u8 (p).ttl, .int .u8 (p).proto, .int .u32 (p).src, .int .u32 (p).dst, .slice X1 m1 j1, .slice X2 m2 j2]), .int .u8 17, .slice none 0 0] W (fun e w' => ∃ C1 e1 f1 C2 e2 f2, e = .returned (.tuple #[.agg #[.int .u8 0, .int .u16 0, .bool false, .int .u8 0, .int .u8 0, .int .u32 0, .int .u32 0, .slice C1 e1 f1, .slice C2 e2 f2], .int .i64 4]) ∧ Own w' W.heap.size 5 C1 e1 f1 [] ∧ Own w' W.heap.size 5 C2 e2 f2 [] ∧ Below W.heap.size W w') := fun W kk => by
      have hh := rwith_any p X1 m1 j1 X2 m2 j2 17 none 0 0 [] W kk (Bs.none_ W)
      unfold withP at hh
      rw [wiE_4 l1 hbad, if_neg (by decide)] at hh
      exact hh.mono fun e w' hq => hq.out
    clear hbad hsE l1 hp ld
    obtain ⟨k, hk⟩ : ∃ k : Nat, w.heap.size = k := ⟨_, rfl⟩
    obtain ⟨w1, hw1⟩ : ∃ W, (((w.alloc (.cells #[.int .u8 (p).tos, .int .u16 (p).id, .bool (p).keep, .int .u8 (p).ttl, .int .u8 (p).proto, .int .u32 (p).src, .int .u32 (p).dst, .slice X1 m1 j1, .slice X2 m2 j2] 26)).alloc (.cells #[.int .u16 (s).src, .int .u16 (s).dst, .bool (s).bare, .slice DA dn dc] 45)).alloc (.cells #[.int .u8 0, .int .u16 0, .bool false, .int .u8 0, .int .u8 0, .int .u32 0, .int .u32 0, .slice none 0 0, .slice none 0 0] 26)) = W := ⟨_, rfl⟩
    have P1 : Blk w1 k #[.int .u8 (p).tos, .int .u16 (p).id, .bool (p).keep, .int .u8 (p).ttl, .int .u8 (p).proto, .int .u32 (p).src, .int .u32 (p).dst, .slice X1 m1 j1, .slice X2 m2 j2] 26 := by rw [← hw1]; exact (((blk_new _ _ _ k (by simp [hk])).alloc _).alloc _)
    have S1 : Blk w1 (k + 1) #[.int .u16 (s).src, .int .u16 (s).dst, .bool (s).bare, .slice DA dn dc] 45 := by rw [← hw1]; exact ((blk_new _ _ _ (k + 1) (by simp [hk])).alloc _)
    have Z1 : Blk w1 (k + 1 + 1) #[.int .u8 0, .int .u16 0, .bool false, .int .u8 0, .int .u8 0, .int .u32 0, .int .u32 0, .slice none 0 0, .slice none 0 0] 26 := by rw [← hw1]; exact (blk_new _ _ _ (k + 1 + 1) (by simp [hk]))
    have R1 : Below w.heap.size w w1 := by rw [← hw1]; (repeat (first | with_reducible exact Below.refl _ _ | with_reducible refine below_drew ?_ | with_reducible refine below_drewN ?_ _ | with_reducible refine below_alloc ?_ (Nat.le_refl _) _ | with_reducible refine Below.setCell ?_ (by first | exact Nat.le_refl _ | (simp only []; omega)) _ | with_reducible assumption))
    have Pc1 := P1.cell
    have Sc1 := S1.cell
    have Zc1 := Z1.cell
    have Pl1 := P1.lt
    have Sl1 := S1.lt
    have Zl1 := Z1.lt
    have xx1 := (k1).below R1
    have yy1 := (kd).below R1
    go_enter Try.func20, Try.ntmps20
    go_wp2_with (go_at_call 37; ((with_reducible refine (hw0 w1 xx1).mono ?_); rintro e w2 ⟨C1, e1, f1, C2, e2, f2, rfl, O1, O2, hB2⟩); (obtain ⟨w3, hw3⟩ : ∃ W, w2.alloc (.cells #[.int .u8 0, .int .u16 0, .bool false, .int .u8 0, .int .u8 0, .int .u32 0, .int .u32 0, .slice C1 e1 f1, .slice C2 e2 f2] 26) = W := ⟨_, rfl⟩); have V3 : Below w2.heap.size w2 w3 := (by rw [← hw3]; (repeat (first | with_reducible exact Below.refl _ _ | with_reducible refine below_drew ?_ | with_reducible refine below_drewN ?_ _ | with_reducible refine below_alloc ?_ (Nat.le_refl _) _ | with_reducible refine Below.setCell ?_ (by first | exact Nat.le_refl _ | (simp only []; omega)) _ | with_reducible assumption))); have T3 := below_then hB2 V3; have Q3 : Blk w3 w2.heap.size #[.int .u8 0, .int .u16 0, .bool false, .int .u8 0, .int .u8 0, .int .u32 0, .int .u32 0, .slice C1 e1 f1, .slice C2 e2 f2] 26 := (by rw [← hw3]; exact blk_new w2 _ _ _ rfl); have qc3 := Q3.cell; have P3 := P1.below T3; have pc3 := P3.cell; have Z3 := Z1.below T3; have zc3 := Z3.cell; have S3 := S1.below T3; have sc3 := S3.cell; have R3 := below_then R1 T3)
    obtain ⟨wf, hwf, Sf⟩ := store9 Z3 (.int .u8 0) (.int .u16 0) (.bool false) (.int .u8 0) (.int .u8 0) (.int .u32 0) (.int .u32 0) (.slice none 0 0) (.slice none 0 0)
    rw [hwf]
    have pf := Sf.blk.cell
    exact bodyPost_ret (v := .tuple #[.agg #[.int .u8 0, .int .u16 0, .bool false, .int .u8 0, .int .u8 0, .int .u32 0, .int .u32 0, .slice none 0 0, .slice none 0 0], .int .i64 4]) (by simp [results, Try.results20, go_sem, pf]) rfl (by rw [HE.out, HP.out]; exact wiPost_no (Sf.bel R3 (by omega)))

  have h1 : (m1 : Int) ≤ 40 := by omega
  have h2 : m1 % 4 = 0 := by omega
  have hw0 : ∀ W, Bs W X1 m1 j1 p.opt → Calls Try.prog 37 #[(.agg #[.int .u8 (p).tos, .int .u16 (p).id, .bool (p).keep, .int .u8 (p).ttl, .int .u8 (p).proto, .int .u32 (p).src, .int .u32 (p).dst, .slice X1 m1 j1, .slice X2 m2 j2]), .int .u8 17, .slice none 0 0] W (fun e w' => ∃ C1 e1 f1 C2 e2 f2, e = .returned (.tuple #[.agg #[.int .u8 p.tos, .int .u16 p.id, .bool p.keep, .int .u8 p.ttl, .int .u8 17, .int .u32 p.src, .int .u32 p.dst, .slice C1 e1 f1, .slice C2 e2 f2], .int .i64 0]) ∧ Own w' W.heap.size 5 C1 e1 f1 p.opt ∧ Own w' W.heap.size 5 C2 e2 f2 [] ∧ Below W.heap.size W w') := fun W kk => by
    have hh := rwith_any p X1 m1 j1 X2 m2 j2 17 none 0 0 [] W kk (Bs.none_ W)
    unfold withP at hh
    rw [show ([] : List UInt8).length = 0 from rfl, wiE_0 l1 h1 h2 (by omega), if_pos rfl] at hh
    exact hh.mono fun e w' hq => hq.out
  have ho1 : ∀ w' (W : World) C1 e1 f1, Own w' W.heap.size 5 C1 e1 f1 p.opt → m1 = e1 := fun w' W C1 e1 f1 h => by rw [← h.len]; exact l1.symm
  by_cases h3 : 65535 < 28 + (m1 : Int) + (dn : Int)
  · have HE : Hid (dbE p s = 8) := by unfold Hid; rw [hsE]; exact wiE_8 l1 h1 h2 (by omega)
    have HP : Hid (dbP p s = zP) := by unfold Hid dbP withP; rw [dS_len, ld, wiE_8 l1 h1 h2 (by omega)]; rfl
    clear hbad hsE l1 hp ld
    obtain ⟨k, hk⟩ : ∃ k : Nat, w.heap.size = k := ⟨_, rfl⟩
    obtain ⟨w1, hw1⟩ : ∃ W, (((w.alloc (.cells #[.int .u8 (p).tos, .int .u16 (p).id, .bool (p).keep, .int .u8 (p).ttl, .int .u8 (p).proto, .int .u32 (p).src, .int .u32 (p).dst, .slice X1 m1 j1, .slice X2 m2 j2] 26)).alloc (.cells #[.int .u16 (s).src, .int .u16 (s).dst, .bool (s).bare, .slice DA dn dc] 45)).alloc (.cells #[.int .u8 0, .int .u16 0, .bool false, .int .u8 0, .int .u8 0, .int .u32 0, .int .u32 0, .slice none 0 0, .slice none 0 0] 26)) = W := ⟨_, rfl⟩
    have P1 : Blk w1 k #[.int .u8 (p).tos, .int .u16 (p).id, .bool (p).keep, .int .u8 (p).ttl, .int .u8 (p).proto, .int .u32 (p).src, .int .u32 (p).dst, .slice X1 m1 j1, .slice X2 m2 j2] 26 := by rw [← hw1]; exact (((blk_new _ _ _ k (by simp [hk])).alloc _).alloc _)
    have S1 : Blk w1 (k + 1) #[.int .u16 (s).src, .int .u16 (s).dst, .bool (s).bare, .slice DA dn dc] 45 := by rw [← hw1]; exact ((blk_new _ _ _ (k + 1) (by simp [hk])).alloc _)
    have Z1 : Blk w1 (k + 1 + 1) #[.int .u8 0, .int .u16 0, .bool false, .int .u8 0, .int .u8 0, .int .u32 0, .int .u32 0, .slice none 0 0, .slice none 0 0] 26 := by rw [← hw1]; exact (blk_new _ _ _ (k + 1 + 1) (by simp [hk]))
    have R1 : Below w.heap.size w w1 := by rw [← hw1]; (repeat (first | with_reducible exact Below.refl _ _ | with_reducible refine below_drew ?_ | with_reducible refine below_drewN ?_ _ | with_reducible refine below_alloc ?_ (Nat.le_refl _) _ | with_reducible refine Below.setCell ?_ (by first | exact Nat.le_refl _ | (simp only []; omega)) _ | with_reducible assumption))
    have Pc1 := P1.cell
    have Sc1 := S1.cell
    have Zc1 := Z1.cell
    have Pl1 := P1.lt
    have Sl1 := S1.lt
    have Zl1 := Z1.lt
    have xx1 := (k1).below R1
    have yy1 := (kd).below R1
    go_enter Try.func20, Try.ntmps20
    go_wp2_with (go_at_call 37; ((with_reducible refine (hw0 w1 xx1).mono ?_); rintro e w2 ⟨C1, e1, f1, C2, e2, f2, rfl, O1, O2, hB2⟩); have ue := ho1 _ w1 _ _ _ O1; subst ue; (obtain ⟨w3, hw3⟩ : ∃ W, w2.alloc (.cells #[.int .u8 p.tos, .int .u16 p.id, .bool p.keep, .int .u8 p.ttl, .int .u8 17, .int .u32 p.src, .int .u32 p.dst, .slice C1 m1 f1, .slice C2 e2 f2] 26) = W := ⟨_, rfl⟩); have V3 : Below w2.heap.size w2 w3 := (by rw [← hw3]; (repeat (first | with_reducible exact Below.refl _ _ | with_reducible refine below_drew ?_ | with_reducible refine below_drewN ?_ _ | with_reducible refine below_alloc ?_ (Nat.le_refl _) _ | with_reducible refine Below.setCell ?_ (by first | exact Nat.le_refl _ | (simp only []; omega)) _ | with_reducible assumption))); have T3 := below_then hB2 V3; have Q3 : Blk w3 w2.heap.size #[.int .u8 p.tos, .int .u16 p.id, .bool p.keep, .int .u8 p.ttl, .int .u8 17, .int .u32 p.src, .int .u32 p.dst, .slice C1 m1 f1, .slice C2 e2 f2] 26 := (by rw [← hw3]; exact blk_new w2 _ _ _ rfl); have qc3 := Q3.cell; have P3 := P1.below T3; have pc3 := P3.cell; have Z3 := Z1.below T3; have zc3 := Z3.cell; have S3 := S1.below T3; have sc3 := S3.cell; have R3 := below_then R1 T3)
    obtain ⟨wf, hwf, Sf⟩ := store9 Z3 (.int .u8 0) (.int .u16 0) (.bool false) (.int .u8 0) (.int .u8 0) (.int .u32 0) (.int .u32 0) (.slice none 0 0) (.slice none 0 0)
    rw [hwf]
    have pf := Sf.blk.cell
    exact bodyPost_ret (v := .tuple #[.agg #[.int .u8 0, .int .u16 0, .bool false, .int .u8 0, .int .u8 0, .int .u32 0, .int .u32 0, .slice none 0 0, .slice none 0 0], .int .i64 8]) (by simp [results, Try.results20, go_sem, pf]) rfl (by rw [HE.out, HP.out]; exact wiPost_no (Sf.bel R3 (by omega)))

  have hE0 : wiE p (8 + dn) = 0 := wiE_0 l1 h1 h2 (by omega)
  have HE : Hid (dbE p s = 0) := by unfold Hid; rw [hsE]; exact hE0
  have HP : Hid (dbP p s = { p with proto := 17, dat := dS p s }) := by unfold Hid dbP withP; rw [dS_len, ld, hE0, if_pos rfl]
  obtain ⟨z, hz⟩ : ∃ z : Int, (8 + (dn : Int)) % 65536 = z := ⟨_, rfl⟩
  have z0 : 0 ≤ z := by omega
  have z1 : z ≤ 65535 := by omega
  obtain ⟨y, hy⟩ : ∃ y : Int, 8 + (dn : Int) = y := ⟨_, rfl⟩
  have hw8 : IntKind.i64.wrap (8 + (dn : Int)) = y := by rw [IntKind.wrap_i64]; omega
  have hwy : IntKind.u16.wrap y = z := by rw [IntKind.wrap_u16]; omega
  have HX : Hid ((((([] ++ two s.src) ++ two s.dst) ++ two z) ++ [0, 0]) ++ s.dat = dL s) := by unfold Hid dL; rw [ld, hz]; simp [twos, two]; decide
  have HN : Hid ((dL s).length = 8 + dn) := by unfold Hid; rw [dL_len, ld]
  have HY := Lib.hid hy
  have h3' : 28 + (m1 : Int) + (dn : Int) ≤ 65535 := by omega
  obtain ⟨zz, hzz⟩ : ∃ z, psum p 17 (dL s) = z := ⟨_, rfl⟩
  have zz0 : 0 ≤ zz := by rw [← hzz]; exact csum_lo _
  have zz1 : zz ≤ 65535 := by rw [← hzz]; exact csum_hi _
  have hsum : ∀ W A n c, n ≤ 65535 → Bs W A n c (dL s) → Calls Try.prog 39 #[(.agg #[.int .u8 (p).tos, .int .u16 (p).id, .bool (p).keep, .int .u8 (p).ttl, .int .u8 (p).proto, .int .u32 (p).src, .int .u32 (p).dst, .slice X1 m1 j1, .slice X2 m2 j2]), .int .u8 17, .slice A n c] W fun e w' => e = .returned (.int .u16 zz) ∧ Below W.heap.size W w' := fun W A n c hn bo => by
    have := rssum_any p hp X1 m1 j1 X2 m2 j2 17 (by omega) (by omega) A n c (dL s) W bo (by omega)
    rw [← hzz]
    exact this
  have hw1' : ∀ W A n c, Bs W X1 m1 j1 p.opt → Bs W A n c (dS p s) → Calls Try.prog 37 #[(.agg #[.int .u8 (p).tos, .int .u16 (p).id, .bool (p).keep, .int .u8 (p).ttl, .int .u8 (p).proto, .int .u32 (p).src, .int .u32 (p).dst, .slice X1 m1 j1, .slice X2 m2 j2]), .int .u8 17, .slice A n c] W (fun e w' => ∃ C1 e1 f1 C2 e2 f2, e = .returned (.tuple #[.agg #[.int .u8 p.tos, .int .u16 p.id, .bool p.keep, .int .u8 p.ttl, .int .u8 17, .int .u32 p.src, .int .u32 p.dst, .slice C1 e1 f1, .slice C2 e2 f2], .int .i64 0]) ∧ Own w' W.heap.size 5 C1 e1 f1 p.opt ∧ Own w' W.heap.size 5 C2 e2 f2 (dS p s) ∧ Below W.heap.size W w') := fun W A n c kk ks => by
    have hh := rwith_any p X1 m1 j1 X2 m2 j2 17 A n c (dS p s) W kk ks
    unfold withP at hh
    rw [dS_len, ld, hE0, if_pos rfl] at hh
    exact hh.mono fun e w' hq => hq.out
  clear hbad hsE hp hE0 hz hy h3 l1 ld
  obtain ⟨k, hk⟩ : ∃ k : Nat, w.heap.size = k := ⟨_, rfl⟩
  obtain ⟨w1, hw1⟩ : ∃ W, (((w.alloc (.cells #[.int .u8 (p).tos, .int .u16 (p).id, .bool (p).keep, .int .u8 (p).ttl, .int .u8 (p).proto, .int .u32 (p).src, .int .u32 (p).dst, .slice X1 m1 j1, .slice X2 m2 j2] 26)).alloc (.cells #[.int .u16 (s).src, .int .u16 (s).dst, .bool (s).bare, .slice DA dn dc] 45)).alloc (.cells #[.int .u8 0, .int .u16 0, .bool false, .int .u8 0, .int .u8 0, .int .u32 0, .int .u32 0, .slice none 0 0, .slice none 0 0] 26)) = W := ⟨_, rfl⟩
  have P1 : Blk w1 k #[.int .u8 (p).tos, .int .u16 (p).id, .bool (p).keep, .int .u8 (p).ttl, .int .u8 (p).proto, .int .u32 (p).src, .int .u32 (p).dst, .slice X1 m1 j1, .slice X2 m2 j2] 26 := by rw [← hw1]; exact (((blk_new _ _ _ k (by simp [hk])).alloc _).alloc _)
  have S1 : Blk w1 (k + 1) #[.int .u16 (s).src, .int .u16 (s).dst, .bool (s).bare, .slice DA dn dc] 45 := by rw [← hw1]; exact ((blk_new _ _ _ (k + 1) (by simp [hk])).alloc _)
  have Z1 : Blk w1 (k + 1 + 1) #[.int .u8 0, .int .u16 0, .bool false, .int .u8 0, .int .u8 0, .int .u32 0, .int .u32 0, .slice none 0 0, .slice none 0 0] 26 := by rw [← hw1]; exact (blk_new _ _ _ (k + 1 + 1) (by simp [hk]))
  have R1 : Below w.heap.size w w1 := by rw [← hw1]; (repeat (first | with_reducible exact Below.refl _ _ | with_reducible refine below_drew ?_ | with_reducible refine below_drewN ?_ _ | with_reducible refine below_alloc ?_ (Nat.le_refl _) _ | with_reducible refine Below.setCell ?_ (by first | exact Nat.le_refl _ | (simp only []; omega)) _ | with_reducible assumption))
  have Pc1 := P1.cell
  have Sc1 := S1.cell
  have Zc1 := Z1.cell
  have Pl1 := P1.lt
  have Sl1 := S1.lt
  have Zl1 := Z1.lt
  have xx1 := (k1).below R1
  have yy1 := (kd).below R1
  go_enter Try.func20, Try.ntmps20
  go_wp2_with (go_at_call 37; ((with_reducible refine (hw0 w1 xx1).mono ?_); rintro e w2 ⟨C1, e1, f1, C2, e2, f2, rfl, O1, O2, hB2⟩); have ue := ho1 _ w1 _ _ _ O1; subst ue; (obtain ⟨w3, hw3⟩ : ∃ W, w2.alloc (.cells #[.int .u8 p.tos, .int .u16 p.id, .bool p.keep, .int .u8 p.ttl, .int .u8 17, .int .u32 p.src, .int .u32 p.dst, .slice C1 m1 f1, .slice C2 e2 f2] 26) = W := ⟨_, rfl⟩); have V3 : Below w2.heap.size w2 w3 := (by rw [← hw3]; (repeat (first | with_reducible exact Below.refl _ _ | with_reducible refine below_drew ?_ | with_reducible refine below_drewN ?_ _ | with_reducible refine below_alloc ?_ (Nat.le_refl _) _ | with_reducible refine Below.setCell ?_ (by first | exact Nat.le_refl _ | (simp only []; omega)) _ | with_reducible assumption))); have T3 := below_then hB2 V3; have Q3 : Blk w3 w2.heap.size #[.int .u8 p.tos, .int .u16 p.id, .bool p.keep, .int .u8 p.ttl, .int .u8 17, .int .u32 p.src, .int .u32 p.dst, .slice C1 m1 f1, .slice C2 e2 f2] 26 := (by rw [← hw3]; exact blk_new w2 _ _ _ rfl); have qc3 := Q3.cell; have P3 := P1.below T3; have pc3 := P3.cell; have Z3 := Z1.below T3; have zc3 := Z3.cell; have S3 := S1.below T3; have sc3 := S3.cell; have R3 := below_then R1 T3)
  have xx3 := xx1.below T3
  have yy3 := yy1.below T3
  have hk1 : w.heap.size ≤ k := Nat.le_of_eq hk
  have r3s := R3.size
  clear hw3 hw1 hk hw0
  refine region_txt 8 (by kernel_rfl) (by kernel_rfl) ?_; (iterate 8 (first | (apply ObsK.skip (by rfl)) | (apply ObsK.v (by rfl); (intro wo hT; (repeat (first | (intro v hv; (fail)) | (intro _ _ k; try have hcv := cv k))); (have sc := (S3.below hT).cell; have hsz : w3.heap.size ≤ wo.heap.size := hT.size); refine Goes.mk ?_; first | (exact goes_app _ _ rfl rfl (own_nil _ w3.heap.size _) rfl (by assumption) (by omega) hsz) | (go_simp; first | exact goes_v | exact goes_b (by assumption) | fail | (refine goes_enter ?_; first | (go_at_call 35; ((with_reducible refine (two_any s.src a0 a1 wo).mono ?_); rintro e w9 ⟨A9, c9, rfl, ho9, hB9⟩); exact ret_b ho9.bs hB9) | (go_at_call 35; ((with_reducible refine (two_any s.dst d0 d1 wo).mono ?_); rintro e w9 ⟨A9, c9, rfl, ho9, hB9⟩); exact ret_b ho9.bs hB9))))) | (apply ObsK.b (by rfl); (intro wo hT; (repeat (first | (intro v hv; (fail)) | (intro _ _ k; try have hcv := cv k))); (have sc := (S3.below hT).cell; have hsz : w3.heap.size ≤ wo.heap.size := hT.size); refine Goes.mk ?_; first | (exact goes_app _ _ rfl rfl (own_nil _ w3.heap.size _) rfl (by assumption) (by omega) hsz) | (go_simp; first | exact goes_v | exact goes_b (by assumption) | fail | (refine goes_enter ?_; first | (go_at_call 35; ((with_reducible refine (two_any s.src a0 a1 wo).mono ?_); rintro e w9 ⟨A9, c9, rfl, ho9, hB9⟩); exact ret_b ho9.bs hB9) | (go_at_call 35; ((with_reducible refine (two_any s.dst d0 d1 wo).mono ?_); rintro e w9 ⟨A9, c9, rfl, ho9, hB9⟩); exact ret_b ho9.bs hB9))))) | (apply ObsK.p (q := isW w3.heap.size ([] ++ two s.src)) (by rfl) st_isW; (intro wo hT; (repeat (first | (intro v hv; (fail)) | (intro _ _ k; try have hcv := cv k))); (have sc := (S3.below hT).cell; have hsz : w3.heap.size ≤ wo.heap.size := hT.size); refine Goes.mk ?_; first | (exact goes_app _ _ rfl rfl (own_nil _ w3.heap.size _) rfl (by assumption) (by omega) hsz) | (go_simp; first | exact goes_v | exact goes_b (by assumption) | fail | (refine goes_enter ?_; first | (go_at_call 35; ((with_reducible refine (two_any s.src a0 a1 wo).mono ?_); rintro e w9 ⟨A9, c9, rfl, ho9, hB9⟩); exact ret_b ho9.bs hB9) | (go_at_call 35; ((with_reducible refine (two_any s.dst d0 d1 wo).mono ?_); rintro e w9 ⟨A9, c9, rfl, ho9, hB9⟩); exact ret_b ho9.bs hB9))))))); refine ObsK.nil ?_; intro wz hBz; simp only [finOn, List.drop_succ_cons, List.drop_zero, List.drop_nil]
  rintro A12 c12 k12 v4 ⟨A10, n10, c10, rfl, O10⟩ A9 c9 k9
  go_simp
  have u10 : n10 = 2 := by rw [← O10.len]; rfl
  subst u10
  clear k9
  have z3l := Z3.lt
  rcases Bool.eq_false_or_eq_true s.bare with hb | hb
  · have HS : Hid (dL s = dS p s) := by unfold Hid dS; rw [hb, if_pos rfl]
    clear hsum hzz
    go_wp2_with (first
    | (at_builtin; refine wpList_append_bs (w0 := w3) _ rfl _ _ _ rfl w3.heap.size 5 Try.underlying24 info_u8 A10 2 c10 _ rfl O10 A12 2 c12 (two s.dst) rfl k12 hBz (by omega) (by first | exact Nat.le_refl _ | exact Below.size hBz | omega | (simp <;> omega)) ?_; intro A14 n14 c14 w14 O14' hB14 _ hz14; have u14 : 4 = n14 := (by rw [← O14'.len]; rfl); subst u14; have S14 := S3.below hB14; have sc14 := S14.cell)
    | (go_at_call 35; ((with_reducible refine (two_any z z0 z1 w14).mono ?_); rintro e w16 ⟨A16, c16, rfl, o16, hB16⟩); have O15' := O14'.below hB16; have T16 := below_then hB14 hB16)
    | (at_builtin; refine wpList_append_bs (w0 := w3) _ rfl _ _ _ rfl w3.heap.size 5 Try.underlying24 info_u8 A14 4 c14 _ rfl O15' A16 2 c16 (two z) rfl o16.bs T16 (by omega) (by first | exact Nat.le_refl _ | exact Below.size T16 | omega | (simp <;> omega)) ?_; intro A17 n17 c17 w17 O17 hB17 _ hz17; have u17 : 6 = n17 := (by rw [← O17.len]; rfl); subst u17)
    | (at_builtin; refine wpList_append_bs (w0 := w3) _ rfl _ _ _ rfl w3.heap.size 5 Try.underlying24 info_u8 A17 6 c17 _ rfl (O17.alloc _) (some ⟨_, 0, none⟩) 2 2 _ rfl (bs00 w17) (hB17.alloc hB17.size _) (by omega) (by first | exact Nat.le_refl _ | exact Below.size (hB17.alloc hB17.size _) | omega | (simp <;> omega)) ?_; intro A18 n18 c18 w18 O18 hB18 _ hz18; have u18 : 8 = n18 := (by rw [← O18.len]; rfl); subst u18; have S18 := S3.below hB18; have sc18 := S18.cell; have d18 := yy3.below hB18)
    | (at_builtin; refine wpList_append_bs (w0 := w3) _ rfl _ _ _ rfl w3.heap.size 5 Try.underlying24 info_u8 A18 8 c18 _ rfl O18 DA dn dc _ rfl d18 hB18 (by omega) (by first | exact Nat.le_refl _ | exact Below.size hB18 | omega | (simp <;> omega)) ?_; intro A22 n22 c22 w22 O22 hB22 _ hz22; rw [HX.out] at O22; have u22 : n22 ≤ 65535 := (by have h1 := O22.len; rw [HN.out] at h1; omega); have P22 := P3.below hB22; have pc22 := P22.cell; have S22 := S3.below hB22; have sc22 := S22.cell; have O22b := O22.bs; have xx22 := xx3.below hB22)
    | (go_at_call 37; ((with_reducible refine (hw1' w22 A22 n22 c22 xx22 (HS.out ▸ O22b)).mono ?_); rintro e w27 ⟨D1, g1', h1', D2, g2', h2', rfl, O13, O14, hB27⟩); have T27 := below_then hB22 hB27; have Z27 := Z3.below T27; have zc27 := Z27.cell))
    obtain ⟨wf, hwf, Sf⟩ := store9 Z27 (.int .u8 p.tos) (.int .u16 p.id) (.bool p.keep) (.int .u8 p.ttl) (.int .u8 17) (.int .u32 p.src) (.int .u32 p.dst) (.slice D1 g1' h1') (.slice D2 g2' h2')
    rw [hwf]
    have pf := Sf.blk.cell
    have t26 := hB22.size
    have Of := Sf.own O13 (fun a e => by have := O13.ge a e; omega)
    have Df := Sf.own O14 (fun a e => by have := O14.ge a e; omega)
    exact bodyPost_ret (v := .tuple #[.agg #[.int .u8 p.tos, .int .u16 p.id, .bool p.keep, .int .u8 p.ttl, .int .u8 17, .int .u32 p.src, .int .u32 p.dst, .slice D1 g1' h1', .slice D2 g2' h2'], .int .i64 0]) (by simp [results, Try.results20, go_sem, pf]) rfl (by rw [HE.out, HP.out]; exact ⟨⟨D1, g1', h1', D2, g2', h2', rfl, Of.mono (by omega), Df.mono (by omega), Sf.bel (below_then R3 T27) (by omega)⟩⟩)
  · have hsum2 := fun W A n c hn bo => (hsum W A n c hn bo)
    by_cases hz0 : zz = 0
    · subst hz0
      have HS : Hid (put16 (dL s) 6 65535 = dS p s) := by unfold Hid dS dZ; rw [hb, hzz]; rfl
      clear hzz
      go_wp2_with (first
      | (at_builtin; refine wpList_append_bs (w0 := w3) _ rfl _ _ _ rfl w3.heap.size 5 Try.underlying24 info_u8 A10 2 c10 _ rfl O10 A12 2 c12 (two s.dst) rfl k12 hBz (by omega) (by first | exact Nat.le_refl _ | exact Below.size hBz | omega | (simp <;> omega)) ?_; intro A14 n14 c14 w14 O14' hB14 _ hz14; have u14 : 4 = n14 := (by rw [← O14'.len]; rfl); subst u14; have S14 := S3.below hB14; have sc14 := S14.cell)
      | (go_at_call 35; ((with_reducible refine (two_any z z0 z1 w14).mono ?_); rintro e w16 ⟨A16, c16, rfl, o16, hB16⟩); have O15' := O14'.below hB16; have T16 := below_then hB14 hB16)
      | (at_builtin; refine wpList_append_bs (w0 := w3) _ rfl _ _ _ rfl w3.heap.size 5 Try.underlying24 info_u8 A14 4 c14 _ rfl O15' A16 2 c16 (two z) rfl o16.bs T16 (by omega) (by first | exact Nat.le_refl _ | exact Below.size T16 | omega | (simp <;> omega)) ?_; intro A17 n17 c17 w17 O17 hB17 _ hz17; have u17 : 6 = n17 := (by rw [← O17.len]; rfl); subst u17)
      | (at_builtin; refine wpList_append_bs (w0 := w3) _ rfl _ _ _ rfl w3.heap.size 5 Try.underlying24 info_u8 A17 6 c17 _ rfl (O17.alloc _) (some ⟨_, 0, none⟩) 2 2 _ rfl (bs00 w17) (hB17.alloc hB17.size _) (by omega) (by first | exact Nat.le_refl _ | exact Below.size (hB17.alloc hB17.size _) | omega | (simp <;> omega)) ?_; intro A18 n18 c18 w18 O18 hB18 _ hz18; have u18 : 8 = n18 := (by rw [← O18.len]; rfl); subst u18; have S18 := S3.below hB18; have sc18 := S18.cell; have d18 := yy3.below hB18)
      | (at_builtin; refine wpList_append_bs (w0 := w3) _ rfl _ _ _ rfl w3.heap.size 5 Try.underlying24 info_u8 A18 8 c18 _ rfl O18 DA dn dc _ rfl d18 hB18 (by omega) (by first | exact Nat.le_refl _ | exact Below.size hB18 | omega | (simp <;> omega)) ?_; intro A22 n22 c22 w22 O22 hB22 _ hz22; rw [HX.out] at O22; have u22 : n22 ≤ 65535 := (by have h1 := O22.len; rw [HN.out] at h1; omega); have P22 := P3.below hB22; have pc22 := P22.cell; have S22 := S3.below hB22; have sc22 := S22.cell; have O22b := O22.bs; have xx22 := xx3.below hB22)
      | (go_at_call 39; ((with_reducible refine (hsum2 w22 A22 n22 c22 u22 O22b).mono ?_); rintro e w25 ⟨rfl, hB25⟩); have T25 := below_then hB22 hB25; have O25 := O22b.below hB25)
      | (go_at_call 38; ((with_reducible refine (rput16_any A22 n22 c22 (dL s) 6 65535 (by omega) (by omega) _ O25).mono ?_); rintro e w26 ⟨A26, c26, rfl, O26, hB26⟩); rw [HS.out] at O26; have O26b := O26.bs; have T26 := below_then T25 hB26; have P26 := P3.below T26; have pc26 := P26.cell; have xx26 := xx3.below T26)
      | (go_at_call 37; ((with_reducible refine (hw1' w26 A26 n22 c26 xx26 O26b).mono ?_); rintro e w27 ⟨D1, g1', h1', D2, g2', h2', rfl, O13, O14, hB27⟩); have T27 := below_then T26 hB27; have Z27 := Z3.below T27; have zc27 := Z27.cell))
      obtain ⟨wf, hwf, Sf⟩ := store9 Z27 (.int .u8 p.tos) (.int .u16 p.id) (.bool p.keep) (.int .u8 p.ttl) (.int .u8 17) (.int .u32 p.src) (.int .u32 p.dst) (.slice D1 g1' h1') (.slice D2 g2' h2')
      rw [hwf]
      have pf := Sf.blk.cell
      have t26 := T26.size
      have Of := Sf.own O13 (fun a e => by have := O13.ge a e; omega)
      have Df := Sf.own O14 (fun a e => by have := O14.ge a e; omega)
      exact bodyPost_ret (v := .tuple #[.agg #[.int .u8 p.tos, .int .u16 p.id, .bool p.keep, .int .u8 p.ttl, .int .u8 17, .int .u32 p.src, .int .u32 p.dst, .slice D1 g1' h1', .slice D2 g2' h2'], .int .i64 0]) (by simp [results, Try.results20, go_sem, pf]) rfl (by rw [HE.out, HP.out]; exact ⟨⟨D1, g1', h1', D2, g2', h2', rfl, Of.mono (by omega), Df.mono (by omega), Sf.bel (below_then R3 T27) (by omega)⟩⟩)
    · have HS : Hid (put16 (dL s) 6 zz = dS p s) := by unfold Hid dS dZ; rw [hb, hzz, if_neg hz0]; rfl
      have z0b : (zz == 0) = false := by simpa using hz0
      clear hzz
      go_wp2_with (first
      | (at_builtin; refine wpList_append_bs (w0 := w3) _ rfl _ _ _ rfl w3.heap.size 5 Try.underlying24 info_u8 A10 2 c10 _ rfl O10 A12 2 c12 (two s.dst) rfl k12 hBz (by omega) (by first | exact Nat.le_refl _ | exact Below.size hBz | omega | (simp <;> omega)) ?_; intro A14 n14 c14 w14 O14' hB14 _ hz14; have u14 : 4 = n14 := (by rw [← O14'.len]; rfl); subst u14; have S14 := S3.below hB14; have sc14 := S14.cell)
      | (go_at_call 35; ((with_reducible refine (two_any z z0 z1 w14).mono ?_); rintro e w16 ⟨A16, c16, rfl, o16, hB16⟩); have O15' := O14'.below hB16; have T16 := below_then hB14 hB16)
      | (at_builtin; refine wpList_append_bs (w0 := w3) _ rfl _ _ _ rfl w3.heap.size 5 Try.underlying24 info_u8 A14 4 c14 _ rfl O15' A16 2 c16 (two z) rfl o16.bs T16 (by omega) (by first | exact Nat.le_refl _ | exact Below.size T16 | omega | (simp <;> omega)) ?_; intro A17 n17 c17 w17 O17 hB17 _ hz17; have u17 : 6 = n17 := (by rw [← O17.len]; rfl); subst u17)
      | (at_builtin; refine wpList_append_bs (w0 := w3) _ rfl _ _ _ rfl w3.heap.size 5 Try.underlying24 info_u8 A17 6 c17 _ rfl (O17.alloc _) (some ⟨_, 0, none⟩) 2 2 _ rfl (bs00 w17) (hB17.alloc hB17.size _) (by omega) (by first | exact Nat.le_refl _ | exact Below.size (hB17.alloc hB17.size _) | omega | (simp <;> omega)) ?_; intro A18 n18 c18 w18 O18 hB18 _ hz18; have u18 : 8 = n18 := (by rw [← O18.len]; rfl); subst u18; have S18 := S3.below hB18; have sc18 := S18.cell; have d18 := yy3.below hB18)
      | (at_builtin; refine wpList_append_bs (w0 := w3) _ rfl _ _ _ rfl w3.heap.size 5 Try.underlying24 info_u8 A18 8 c18 _ rfl O18 DA dn dc _ rfl d18 hB18 (by omega) (by first | exact Nat.le_refl _ | exact Below.size hB18 | omega | (simp <;> omega)) ?_; intro A22 n22 c22 w22 O22 hB22 _ hz22; rw [HX.out] at O22; have u22 : n22 ≤ 65535 := (by have h1 := O22.len; rw [HN.out] at h1; omega); have P22 := P3.below hB22; have pc22 := P22.cell; have S22 := S3.below hB22; have sc22 := S22.cell; have O22b := O22.bs; have xx22 := xx3.below hB22)
      | (go_at_call 39; ((with_reducible refine (hsum2 w22 A22 n22 c22 u22 O22b).mono ?_); rintro e w25 ⟨rfl, hB25⟩); have T25 := below_then hB22 hB25; have O25 := O22b.below hB25)
      | (go_at_call 38; ((with_reducible refine (rput16_any A22 n22 c22 (dL s) 6 zz zz0 zz1 _ O25).mono ?_); rintro e w26 ⟨A26, c26, rfl, O26, hB26⟩); rw [HS.out] at O26; have O26b := O26.bs; have T26 := below_then T25 hB26; have P26 := P3.below T26; have pc26 := P26.cell; have xx26 := xx3.below T26)
      | (go_at_call 37; ((with_reducible refine (hw1' w26 A26 n22 c26 xx26 O26b).mono ?_); rintro e w27 ⟨D1, g1', h1', D2, g2', h2', rfl, O13, O14, hB27⟩); have T27 := below_then T26 hB27; have Z27 := Z3.below T27; have zc27 := Z27.cell))
      obtain ⟨wf, hwf, Sf⟩ := store9 Z27 (.int .u8 p.tos) (.int .u16 p.id) (.bool p.keep) (.int .u8 p.ttl) (.int .u8 17) (.int .u32 p.src) (.int .u32 p.dst) (.slice D1 g1' h1') (.slice D2 g2' h2')
      rw [hwf]
      have pf := Sf.blk.cell
      have t26 := T26.size
      have Of := Sf.own O13 (fun a e => by have := O13.ge a e; omega)
      have Df := Sf.own O14 (fun a e => by have := O14.ge a e; omega)
      exact bodyPost_ret (v := .tuple #[.agg #[.int .u8 p.tos, .int .u16 p.id, .bool p.keep, .int .u8 p.ttl, .int .u8 17, .int .u32 p.src, .int .u32 p.dst, .slice D1 g1' h1', .slice D2 g2' h2'], .int .i64 0]) (by simp [results, Try.results20, go_sem, pf]) rfl (by rw [HE.out, HP.out]; exact ⟨⟨D1, g1', h1', D2, g2', h2', rfl, Of.mono (by omega), Df.mono (by omega), Sf.bel (below_then R3 T27) (by omega)⟩⟩)
end Go.Proofs.Ythgoffbfgdgkpaa

namespace Go.Proofs.Ythgoffbfgdgkpaa
open Go.RowKit
set_option linter.unusedVariables false
set_option linter.unusedSimpArgs false
set_option maxHeartbeats 4000000
set_option maxRecDepth 100000

def q05 : Pkt := ⟨0, 0, false, 0, 0, 1, 2, [], []⟩
def d05 : Dgm := ⟨3, 4, false, []⟩
def p05 : Pkt := ⟨0, 0, false, 0, 17, 1, 2, [], dS q05 d05⟩
def t05 : Tup := ⟨17, 1, 2, 3, 4⟩
theorem q05_ok : q05.Ok := ⟨by decide, by decide, by decide, by decide, by decide, by decide⟩
theorem p05_ok : p05.Ok := ⟨by decide, by decide, by decide, by decide, by decide, by decide⟩
theorem t05_ok : t05.Ok := ⟨by decide, by decide, by decide, by decide, by decide⟩
theorem live05_any (w : World) : Calls Try.prog 12 #[] w fun e w' => e = .returned (.bool true) ∧ Below w.heap.size w w' := by
  have cu : ∀ W, Calls Try.prog 20 #[.agg #[.int .u8 0, .int .u16 0, .bool false, .int .u8 0, .int .u8 0, .int .u32 1, .int .u32 2, .slice none 0 0, .slice none 0 0], .agg #[.int .u16 3, .int .u16 4, .bool false, .slice none 0 0]] W fun e w' => ∃ B1 m1 d1 B2 d2, e = .returned (.tuple #[.agg #[.int .u8 0, .int .u16 0, .bool false, .int .u8 0, .int .u8 17, .int .u32 1, .int .u32 2, .slice B1 m1 d1, .slice B2 8 d2], .int .i64 0]) ∧ Bs w' B2 8 d2 p05.dat ∧ Below W.heap.size W w' := fun W => by
    have hh := rdbuild_any q05 q05_ok none 0 0 none 0 0 d05 ⟨by decide, by decide⟩ none 0 0 W (Bs.none_ _) (Bs.none_ _)
    refine hh.mono fun e w' hq => ?_
    obtain ⟨B1, m1, d1, B2, m2, d2, rfl, -, h2, h3⟩ := hq.out
    have e1 : dbP q05 d05 = p05 := by kernel_rfl
    have e2 : dbE q05 d05 = 0 := by kernel_rfl
    rw [e1] at h2 ⊢
    rw [e2]
    have h5 : m2 = 8 := by have h4 := h2.len; rw [show p05.dat = dS q05 d05 from rfl, dS_len] at h4; simpa [d05] using h4.symm
    subst h5
    exact ⟨B1, m1, d1, B2, d2, rfl, h2.bs, h3⟩
  have co : ∀ W B1 m1 d1 B2 d2, Bs W B2 8 d2 p05.dat → Calls Try.prog 10 #[.agg #[.int .u8 0, .int .u16 0, .bool false, .int .u8 0, .int .u8 17, .int .u32 1, .int .u32 2, .slice B1 m1 d1, .slice B2 8 d2]] W fun e w' => e = .returned (.tuple #[.agg #[.int .u8 17, .int .u32 1, .int .u32 2, .int .u16 3, .int .u16 4], .int .i64 0]) ∧ Below W.heap.size W w' := fun W B1 m1 d1 B2 d2 K => by
    have hh := of_any p05 p05_ok B1 m1 d1 B2 8 d2 W K (by omega)
    refine hh.mono fun e w' hq => ?_
    obtain ⟨rfl, h3⟩ := hq.out
    have e1 : ofT p05 = t05 := by kernel_rfl
    have e2 : ofE p05 = 0 := by kernel_rfl
    rw [e1, e2]
    exact ⟨rfl, h3⟩
  have cr : ∀ W, Calls Try.prog 13 #[.agg #[.int .u8 17, .int .u32 1, .int .u32 2, .int .u16 3, .int .u16 4]] W fun e w' => e = .returned (.agg #[.int .u8 17, .int .u32 2, .int .u32 1, .int .u16 4, .int .u16 3]) ∧ Below W.heap.size W w' := fun W => rev_any t05 W
  obtain ⟨h, hh⟩ : ∃ h, hashT t05 = h := ⟨_, rfl⟩
  have hne : (h != 0) = true := by rw [← hh]; kernel_rfl
  have ch : ∀ W, Calls Try.prog 17 #[.agg #[.int .u8 17, .int .u32 1, .int .u32 2, .int .u16 3, .int .u16 4]] W fun e w' => e = .returned (.int .u32 h) ∧ Below W.heap.size W w' := fun W => by rw [← hh]; exact hash_any t05 t05_ok W
  clear hh
  have hfd : ∀ W : World, (Instr.field 28 (.agg #[.int .u8 17, .int .u32 2, .int .u32 1, .int .u16 4, .int .u16 3]) 1).run Try.prog W = .ok (.int .u32 2) W := fun W => rfl
  have R1 := Below.refl w.heap.size w
  obtain ⟨w1, hw1⟩ : ∃ W, w = W := ⟨_, rfl⟩
  rw [hw1] at R1

  subst hw1
  go_enter Try.func12, Try.ntmps12
  go_wp2_with (first
    | (go_at_call 20; ((with_reducible refine (cu w).mono ?_); rintro e u2 ⟨B1, m1, d1, B2, d2, rfl, k9, hB2⟩); (obtain ⟨w2, hw2⟩ : ∃ W, u2.alloc (.cells #[.int .u8 0, .int .u16 0, .bool false, .int .u8 0, .int .u8 17, .int .u32 1, .int .u32 2, .slice B1 m1 d1, .slice B2 8 d2] 26) = W := ⟨_, rfl⟩); have V2 : Below u2.heap.size u2 w2 := (by rw [← hw2]; (repeat (first | with_reducible exact Below.refl _ _ | with_reducible refine below_drew ?_ | with_reducible refine below_drewN ?_ _ | with_reducible refine below_alloc ?_ (Nat.le_refl _) _ | with_reducible refine Below.setCell ?_ (by first | exact Nat.le_refl _ | (simp only []; omega)) _ | with_reducible assumption))); (obtain ⟨kP2, hkP2⟩ : ∃ k : Nat, u2.heap.size = k := ⟨_, rfl⟩); have P2 : Blk w2 kP2 #[.int .u8 0, .int .u16 0, .bool false, .int .u8 0, .int .u8 17, .int .u32 1, .int .u32 2, .slice B1 m1 d1, .slice B2 8 d2] 26 := (by rw [← hw2]; exact blk_new u2 _ _ _ hkP2); have Pc2 := P2.cell; have T2 := below_then hB2 V2; have x2 := (k9).below V2; have R2 := below_then R1 T2)
    | (go_at_call 10; ((with_reducible refine (co w2 B1 m1 d1 B2 d2 x2).mono ?_); rintro e u3 ⟨rfl, hB3⟩); (obtain ⟨w3, hw3⟩ : ∃ W, u3.alloc (.cells #[.int .u8 17, .int .u32 1, .int .u32 2, .int .u16 3, .int .u16 4] 28) = W := ⟨_, rfl⟩); have V3 : Below u3.heap.size u3 w3 := (by rw [← hw3]; (repeat (first | with_reducible exact Below.refl _ _ | with_reducible refine below_drew ?_ | with_reducible refine below_drewN ?_ _ | with_reducible refine below_alloc ?_ (Nat.le_refl _) _ | with_reducible refine Below.setCell ?_ (by first | exact Nat.le_refl _ | (simp only []; omega)) _ | with_reducible assumption))); (obtain ⟨kS3, hkS3⟩ : ∃ k : Nat, u3.heap.size = k := ⟨_, rfl⟩); have S3 : Blk w3 kS3 #[.int .u8 17, .int .u32 1, .int .u32 2, .int .u16 3, .int .u16 4] 28 := (by rw [← hw3]; exact blk_new u3 _ _ _ hkS3); have Sc3 := S3.cell; have T3 := below_then hB3 V3; have P3 := P2.below T3; have Pc3 := P3.cell; clear Pc2; have x3 := x2.below T3; have R3 := below_then R2 T3)
    | (go_at_call 13; ((with_reducible refine (cr w3).mono ?_); rintro e w4 ⟨rfl, hB4⟩); have P4 := P3.below hB4; have Pc4 := P4.cell; clear Pc3; have S4 := S3.below hB4; have Sc4 := S4.cell; clear Sc3; have x4 := x3.below hB4; have R4 := below_then R3 hB4)
    | (go_at_call 17; ((with_reducible refine (ch w4).mono ?_); rintro e w5 ⟨rfl, hB5⟩); have P5 := P4.below hB5; have Pc5 := P5.cell; clear Pc4; have S5 := S4.below hB5; have Sc5 := S5.cell; clear Sc4; have x5 := x4.below hB5; have R5 := below_then R4 hB5))
  go_ret
  exact ⟨rfl, R5⟩
end Go.Proofs.Ythgoffbfgdgkpaa

namespace Go.Proofs.Ythgoffbfgdgkpaa
open Go.RowKit
set_option linter.unusedVariables false
set_option maxRecDepth 100000

theorem mL_at (m : Msg) (hm : m.Ok) : bt (mL m) 0 = m.ty ∧ bt (mL m) 1 = m.code ∧ bt (mL m) 2 = 0 ∧ bt (mL m) 3 = 0 ∧ get16 (mL m) ((4 : Nat) : Int) = m.rest / 65536 ∧ get16 (mL m) ((6 : Nat) : Int) = m.rest % 65536 := by
  obtain ⟨⟨a0, a1⟩, ⟨b0, b1⟩, ⟨c0, c1⟩⟩ := hm
  have hl := mL_len m
  refine ⟨?_, ?_, rfl, rfl, ?_, ?_⟩
  · show ((ub _).toNat : Int) = _
    rw [ub_val]; omega
  · show ((ub _).toNat : Int) = _
    rw [ub_val]; omega
  · rw [get16_in (by omega) (by omega)]
    show ((ub _).toNat : Int) * 256 + ((ub _).toNat : Int) = _
    rw [ub_val, ub_val]; omega
  · rw [get16_in (by omega) (by omega)]
    show ((ub _).toNat : Int) * 256 + ((ub _).toNat : Int) = _
    rw [ub_val, ub_val]; omega
theorem mS_good (m : Msg) : csum (mS m) = 0 :=
  good_put (j := 1) (z := mL m) (by rw [mL_len]; omega) rfl
theorem mS_back (m : Msg) (hm : m.Ok) : bt (mS m) 0 = m.ty ∧ bt (mS m) 1 = m.code ∧ get32 (mS m) 4 = m.rest ∧ (mS m).drop 8 = m.dat := by
  obtain ⟨h0, h1, -, -, h4, h6⟩ := mL_at m hm
  have hl := mL_len m
  have c2 : (2 : Int) = ((2 : Nat) : Int) := rfl
  obtain ⟨-, -, ⟨c0, c1⟩⟩ := hm
  refine ⟨?_, ?_, ?_, ?_⟩
  · unfold mS
    rw [c2, bt_put16 (by omega), if_neg (by omega), if_neg (by omega), h0]
  · unfold mS
    rw [c2, bt_put16 (by omega), if_neg (by omega), if_neg (by omega), h1]
  · rw [get32_in (by omega) (by rw [mS_len]; omega)]
    unfold mS
    show get16 (put16 (mL m) ((2 : Nat) : Int) _) ((4 : Nat) : Int) * 65536 + get16 (put16 (mL m) ((2 : Nat) : Int) _) ((6 : Nat) : Int) = _
    rw [get16_put16_far (by omega) (by omega) (by omega), get16_put16_far (by omega) (by omega) (by omega), h4, h6]
    omega
  · have e : mL m = ([ub m.ty, ub m.code, 0, 0] ++ four m.rest) ++ m.dat := rfl
    have e8 : ([ub m.ty, ub m.code, 0, 0] ++ four m.rest).length = 8 := rfl
    unfold mS
    rw [c2, e, put16_append (by rw [e8]; omega), List.drop_left' (by rw [put16_length, e8])]
theorem ic_back (p : Pkt) (m : Msg) (hm : m.Ok) : icE { p with proto := 1, dat := mS m } = 0 ∧ icM { p with proto := 1, dat := mS m } = m := by
  have e : icE { p with proto := 1, dat := mS m } = 0 := icE_0 rfl (by show (8 : Int) ≤ ((mS m).length : Int); rw [mS_len]; omega) (mS_good m)
  refine ⟨e, ?_⟩
  obtain ⟨h0, h1, h2, h3⟩ := mS_back m hm
  unfold icM
  rw [if_pos e]
  show (⟨bt (mS m) 0, bt (mS m) 1, get32 (mS m) 4, (mS m).drop 8⟩ : Msg) = m
  rw [h0, h1, h2, h3]
theorem bgP_ok {p : Pkt} {f : Frm} (h : bgE p f = 0) : bgP p f = { p with proto := 47, dat := gL f } := by
  revert h
  unfold bgE bgP
  split
  · intro h; exact absurd h (by decide)
  · intro h
    unfold withP
    rw [gL_len, if_pos h]
theorem gH_len (f : Frm) : (gH f).length = 8 + (if f.hs then 4 else 0) + (if f.ha then 4 else 0) := by
  unfold gH grB two four
  cases f.hs <;> cases f.ha <;> simp
theorem gH_at (f : Frm) (hf : f.Ok) (hl : f.dat.length ≤ 65535) (r : List UInt8) :
    bt (gH f ++ r) 0 = b0F f.hs ∧ bt (gH f ++ r) 1 = b1F f.ha ∧ bt (gH f ++ r) 2 = 136 ∧ bt (gH f ++ r) 3 = 11 ∧ get16 (gH f ++ r) 4 = f.dat.length ∧ get16 (gH f ++ r) 6 = f.call := by
  have hL : 8 ≤ (gH f ++ r).length := by rw [List.length_append, gH_len]; omega
  obtain ⟨⟨c0, c1⟩, -, -⟩ := hf
  have h0 := b0F_bd f.hs
  have h1 := b1F_bd f.ha
  have e : gH f ++ r = [ub (b0F f.hs), ub (b1F f.ha), ub 136, ub 11, ub ((f.dat.length : Int) % 65536 / 256), ub ((f.dat.length : Int) % 65536), ub (f.call / 256), ub f.call] ++ ((if f.hs then four f.seq else []) ++ (if f.ha then four f.ack else []) ++ r) := by
    unfold gH grB two; simp
  rw [e] at hL ⊢
  refine ⟨?_, ?_, ?_, ?_, ?_, ?_⟩
  · show ((ub _).toNat : Int) = _
    rw [ub_val]; omega
  · show ((ub _).toNat : Int) = _
    rw [ub_val]; omega
  · rfl
  · rfl
  · rw [get16_in (by omega) (by omega)]
    show ((ub _).toNat : Int) * 256 + ((ub _).toNat : Int) = _
    rw [ub_val, ub_val]; omega
  · rw [get16_in (by omega) (by omega)]
    show ((ub _).toNat : Int) * 256 + ((ub _).toNat : Int) = _
    rw [ub_val, ub_val]; omega
theorem b0F_eq (s : Bool) : (b0F s == 48) = s ∧ (b0F s == 32 || b0F s == 48) = true := by cases s <;> decide
theorem b1F_eq (s : Bool) : (b1F s == 129) = s ∧ (b1F s == 1 || b1F s == 129) = true := by cases s <;> decide
theorem g_flags {l : List UInt8} {s a : Bool} (h0 : bt l 0 = b0F s) (h1 : bt l 1 = b1F a) (h2 : bt l 2 = 136) (h3 : bt l 3 = 11) : sB l = s ∧ aB l = a ∧ begB l = true ∧ hdG l = 8 + (if s then 4 else 0) + (if a then 4 else 0) := by
  have e1 : sB l = s := by unfold sB; rw [h0, (b0F_eq s).1]
  have e2 : aB l = a := by unfold aB; rw [h1, (b1F_eq a).1]
  refine ⟨e1, e2, ?_, ?_⟩
  · unfold begB; rw [h0, h1, h2, h3, (b0F_eq s).2, (b1F_eq a).2]; rfl
  · unfold hdG; rw [e1, e2]
theorem g_said (p : Pkt) {l : List UInt8} {s a : Bool} {n : Nat} (h0 : bt l 0 = b0F s) (h1 : bt l 1 = b1F a) (h2 : bt l 2 = 136) (h3 : bt l 3 = 11) (h4 : get16 l 4 = n) (hl : 8 ≤ l.length) :
    geE { p with proto := 47, dat := l } = (if (l.length : Int) < 8 + (if s then 4 else 0) + (if a then 4 else 0) + n then 3 else if 8 + (if s then 4 else 0) + (if a then 4 else 0) + (n : Int) < (l.length : Int) then 4 else 0) := by
  obtain ⟨-, -, e3, e4⟩ := g_flags h0 h1 h2 h3
  unfold geE
  rw [if_neg (by simp), if_neg (by show ¬ ((l.length : Int) < 8); omega)]
  show (if begB l = false then (4 : Int) else if (l.length : Int) < hdG l + get16 l 4 then 3 else if hdG l + get16 l 4 < (l.length : Int) then 4 else 0) = _
  rw [if_neg (by rw [e3]; decide), e4, h4]
  cases s <;> cases a <;> simp
theorem ge_back (p : Pkt) (f : Frm) (hf : f.Ok) (hb : gBad f = false) (hl : f.dat.length ≤ 65535) : geE { p with proto := 47, dat := gL f } = 0 ∧ geF { p with proto := 47, dat := gL f } = f := by
  obtain ⟨h0, h1, h2, h3, h4, h6⟩ := gH_at f hf hl f.dat
  have hN := gL_len f
  have e : gL f = gH f ++ f.dat := rfl
  rw [← e] at h0 h1 h2 h3 h4 h6
  have hE : geE { p with proto := 47, dat := gL f } = 0 := by
    rw [g_said p h0 h1 h2 h3 h4 (by rw [hN]; unfold gN; omega), hN]
    unfold gN
    cases f.hs <;> cases f.ha <;> simp
  refine ⟨hE, ?_⟩
  obtain ⟨e1, e2, e3, e4⟩ := g_flags h0 h1 h2 h3
  unfold geF
  rw [if_pos hE]
  show rdF (gL f) = f
  unfold rdF
  rw [e1, e2, e4, h6]
  have e5 : (gL f).drop (8 + (if f.hs then 4 else 0) + (if f.ha then 4 else 0)) = f.dat := by rw [e, List.drop_left' (gH_len f)]
  rw [e5]
  obtain ⟨-, ⟨s0, s1⟩, ⟨a0, a1⟩⟩ := hf
  have hs : (if f.hs then get32 (gL f) 8 else 0) = f.seq := by
    by_cases q : f.hs = true
    · rw [if_pos q, get32_in (by omega) (by rw [hN]; unfold gN; rw [if_pos q]; omega), get16_in (by omega) (by rw [hN]; unfold gN; rw [if_pos q]; omega), get16_in (by omega) (by rw [hN]; unfold gN; rw [if_pos q]; omega)]
      have e6 : gL f = [ub (b0F f.hs), ub (b1F f.ha), ub 136, ub 11, ub ((f.dat.length : Int) % 65536 / 256), ub ((f.dat.length : Int) % 65536), ub (f.call / 256), ub f.call] ++ (four f.seq ++ ((if f.ha then four f.ack else []) ++ f.dat)) := by
        unfold gL gH grB two; rw [if_pos q]; simp
      rw [e6]
      show (((ub _).toNat : Int) * 256 + ((ub _).toNat : Int)) * 65536 + (((ub _).toNat : Int) * 256 + ((ub _).toNat : Int)) = _
      rw [ub_val, ub_val, ub_val, ub_val]; omega
    · rw [if_neg q]
      unfold gBad at hb
      have q' : f.hs = false := by simpa using q
      rw [q'] at hb
      simp at hb
      exact hb.1.symm
  have ha : (if f.ha then get32 (gL f) (if f.hs then 12 else 8) else 0) = f.ack := by
    by_cases q : f.ha = true
    · rw [if_pos q]
      by_cases q2 : f.hs = true
      · rw [if_pos q2, get32_in (by omega) (by rw [hN]; unfold gN; rw [if_pos q, if_pos q2]; omega), get16_in (by omega) (by rw [hN]; unfold gN; rw [if_pos q, if_pos q2]; omega), get16_in (by omega) (by rw [hN]; unfold gN; rw [if_pos q, if_pos q2]; omega)]
        have e6 : gL f = [ub (b0F f.hs), ub (b1F f.ha), ub 136, ub 11, ub ((f.dat.length : Int) % 65536 / 256), ub ((f.dat.length : Int) % 65536), ub (f.call / 256), ub f.call] ++ (four f.seq ++ (four f.ack ++ f.dat)) := by
          unfold gL gH grB two; rw [if_pos q, if_pos q2]; simp
        rw [e6]
        show (((ub _).toNat : Int) * 256 + ((ub _).toNat : Int)) * 65536 + (((ub _).toNat : Int) * 256 + ((ub _).toNat : Int)) = _
        rw [ub_val, ub_val, ub_val, ub_val]; omega
      · rw [if_neg q2, get32_in (by omega) (by rw [hN]; unfold gN; rw [if_pos q]; omega), get16_in (by omega) (by rw [hN]; unfold gN; rw [if_pos q]; omega), get16_in (by omega) (by rw [hN]; unfold gN; rw [if_pos q]; omega)]
        have e6 : gL f = [ub (b0F f.hs), ub (b1F f.ha), ub 136, ub 11, ub ((f.dat.length : Int) % 65536 / 256), ub ((f.dat.length : Int) % 65536), ub (f.call / 256), ub f.call] ++ (four f.ack ++ f.dat) := by
          unfold gL gH grB two; rw [if_pos q, if_neg q2]; simp
        rw [e6]
        show (((ub _).toNat : Int) * 256 + ((ub _).toNat : Int)) * 65536 + (((ub _).toNat : Int) * 256 + ((ub _).toNat : Int)) = _
        rw [ub_val, ub_val, ub_val, ub_val]; omega
    · rw [if_neg q]
      unfold gBad at hb
      have q' : f.ha = false := by simpa using q
      rw [q'] at hb
      simp at hb
      exact hb.2.symm
  rw [hs, ha]
end Go.Proofs.Ythgoffbfgdgkpaa

namespace Go.Proofs.Ythgoffbfgdgkpaa
open Go.RowKit
set_option linter.unusedVariables false
set_option linter.unusedSimpArgs false
set_option maxRecDepth 100000

theorem nx_opt {o : Opt} (ho : o.Ok) (hb : badO o = false) (r : List UInt8) : nx (optB o ++ r) = some (some (o, (optB o).length)) := by
  obtain ⟨k, d⟩ := o
  obtain ⟨k0, k1⟩ := ho.kind
  unfold badO at hb
  simp only [Bool.or_eq_false_iff, Bool.and_eq_false_iff, beq_eq_false_iff_ne, decide_eq_false_iff_not] at hb k0 k1
  obtain ⟨⟨b0, b1⟩, b2⟩ := hb
  by_cases h1 : k = 1
  · subst h1
    have hd : d = [] := by
      rcases b1 with b1 | b1
      · exact absurd rfl b1
      · exact List.eq_nil_of_length_eq_zero (by omega)
    subst hd
    unfold nx optB
    simp [bt, ub]
  · have e : optB ⟨k, d⟩ ++ r = ub k :: ub (2 + (d.length : Int)) :: (d ++ r) := by unfold optB; simp [h1]
    have t0 : bt (ub k :: ub (2 + (d.length : Int)) :: (d ++ r)) 0 = k := by show ((ub k).toNat : Int) = k; rw [ub_val]; omega
    have t1 : bt (ub k :: ub (2 + (d.length : Int)) :: (d ++ r)) 1 = 2 + (d.length : Int) := by show ((ub (2 + (d.length : Int))).toNat : Int) = _; rw [ub_val]; omega
    rw [e]
    unfold nx
    rw [t0, t1, if_neg (by simp), if_neg b0, if_neg h1, if_neg (by simp; omega)]
    have e2 : (2 + (d.length : Int)).toNat = d.length + 2 := by omega
    rw [e2]
    have e3 : (optB ⟨k, d⟩).length = d.length + 2 := by unfold optB; simp [h1]
    rw [e3]
    simp
theorem optsP_zs (n : Nat) : optsP (zs n) = some [] := by
  refine optsP_end ?_
  unfold nx
  cases n with
  | zero => rfl
  | succ n =>
    rw [if_neg (by simp [zs]), if_pos (bt_zs _ _), if_pos (by simp [allZ, zs])]
theorem optsP_optL : ∀ {os : List Opt}, (∀ o ∈ os, o.Ok) → (∀ o ∈ os, badO o = false) → ∀ n, optsP (optsB os ++ zs n) = some os
  | [], _, _, n => by simpa [optsB] using optsP_zs n
  | o :: os, h1, h2, n => by
    have e : optsB (o :: os) ++ zs n = optB o ++ (optsB os ++ zs n) := by simp [optsB]
    rw [e, optsP_some (nx_opt (h1 o (by simp)) (h2 o (by simp)) _), List.drop_left, optsP_optL (fun o' h => h1 o' (by simp [h])) (fun o' h => h2 o' (by simp [h])) n]
    rfl
theorem okOs_opts {os : List Opt} (h1 : ∀ o ∈ os, o.Ok) (h : okOs os = true) : optsP (optL os) = some os := by
  unfold okOs at h
  simp only [Bool.and_eq_true, List.all_eq_true, decide_eq_true_eq] at h
  unfold optL
  exact optsP_optL h1 (fun o ho => by simpa using h.1 o ho) _

theorem pseudo_len (s d p n : Int) : (pseudo s d p n).length = 12 := rfl
theorem put16_behind {a b : List UInt8} {i : Nat} {v : Int} (h : i + 2 ≤ b.length) : put16 (a ++ b) ((a.length + i : Nat) : Int) v = a ++ put16 b i v := by
  rw [put16_eq (by rw [List.length_append]; omega), put16_eq h, List.set_append_right _ _ (by omega), List.set_append_right _ _ (by omega)]
  rw [show a.length + i - a.length = i from by omega, show a.length + i + 1 - a.length = i + 1 from by omega]
theorem psum_z {p : Pkt} {pr : Int} {l : List UInt8} {j : Nat} (h : 2 * j + 2 ≤ l.length) (h0 : wd l j = 0) (v : Int) (v0 : 0 ≤ v) (v1 : v ≤ 65535) :
    psum p pr (put16 l (2 * j : Nat) v) = csum (put16 (pseudo p.src p.dst pr l.length ++ l) (2 * (6 + j) : Nat) v) ∧ 2 * (6 + j) + 2 ≤ (pseudo p.src p.dst pr l.length ++ l).length ∧ wd (pseudo p.src p.dst pr l.length ++ l) (6 + j) = 0 := by
  refine ⟨?_, by rw [List.length_append, pseudo_len]; omega, ?_⟩
  · unfold psum
    rw [put16_length, show (2 * (6 + j) : Nat) = (pseudo p.src p.dst pr l.length).length + 2 * j from by rw [pseudo_len]; omega, put16_behind h]
  · rw [wd_append_right (m := 6) _ rfl]; exact h0
theorem psum_good {p : Pkt} {pr : Int} {l : List UInt8} {j : Nat} (h : 2 * j + 2 ≤ l.length) (h0 : wd l j = 0) : psum p pr (put16 l (2 * j : Nat) (psum p pr l)) = 0 := by
  obtain ⟨e, h1, h2⟩ := psum_z (p := p) (pr := pr) h h0 (psum p pr l) (csum_lo _) (csum_hi _)
  rw [e]
  exact good_put h1 h2
theorem psum_good2 {p : Pkt} {pr : Int} {l : List UInt8} {j : Nat} (h : 2 * j + 2 ≤ l.length) (h0 : wd l j = 0) (hs : psum p pr l = 0) : psum p pr (put16 l (2 * j : Nat) 65535) = 0 := by
  obtain ⟨e, h1, h2⟩ := psum_z (p := p) (pr := pr) h h0 65535 (by omega) (by omega)
  rw [e]
  obtain ⟨t1, t2⟩ := (csum_zero _).1 hs
  rw [csum_zero, ws_put16 (by omega) (by omega) h1, h2]
  have t3 := ws_lo (pseudo p.src p.dst pr l.length ++ l)
  generalize ws (pseudo p.src p.dst pr l.length ++ l) = W at t1 t2 t3 ⊢
  exact ⟨by omega, by omega⟩
def hX (s : Seg) (c : Int) : List UInt8 := [ub (s.src / 256), ub s.src, ub (s.dst / 256), ub s.dst, ub (s.seq / 16777216), ub (s.seq / 65536), ub (s.seq / 256), ub s.seq, ub (s.ack / 16777216), ub (s.ack / 65536), ub (s.ack / 256), ub s.ack, ub (((20 + (optL s.opts).length : Nat) : Int) / 4 * 16), ub s.flags, ub (s.win / 256), ub s.win, ub (c / 256), ub c, ub (s.urg / 256), ub s.urg]
theorem hX_len (s : Seg) (c : Int) : (hX s c).length = 20 := rfl
theorem sL_hX (s : Seg) : sL s = hX s 0 ++ (optL s.opts ++ s.dat) := by
  have e0 : ub 0 = 0 := by decide
  unfold sL hX two four
  simp [e0]
theorem hX_put (s : Seg) (c d : Int) : put16 (hX s c) ((16 : Nat) : Int) d = hX s d := by
  rw [put16_eq (by rw [hX_len]; omega)]
  simp [hX]
theorem sS_hX (p : Pkt) (s : Seg) : sS p s = hX s (psum p 6 (sL s)) ++ (optL s.opts ++ s.dat) := by
  unfold sS
  conv => lhs; arg 1; rw [sL_hX]
  rw [show (16 : Int) = ((16 : Nat) : Int) from rfl, put16_append (by rw [hX_len]; omega), hX_put]
theorem hX_at {s : Seg} (hs : s.Ok) (c : Int) (r : List UInt8) (hn : (optL s.opts).length ≤ 40) :
    get16 (hX s c ++ r) 0 = s.src ∧ get16 (hX s c ++ r) 2 = s.dst ∧ get32 (hX s c ++ r) 4 = s.seq ∧ get32 (hX s c ++ r) 8 = s.ack ∧ bt (hX s c ++ r) 12 = (20 + ((optL s.opts).length : Int)) / 4 * 16 ∧
    bt (hX s c ++ r) 13 = s.flags ∧ get16 (hX s c ++ r) 14 = s.win ∧ get16 (hX s c ++ r) 18 = s.urg := by
  obtain ⟨⟨o1, o1'⟩, ⟨o2, o2'⟩, ⟨o3, o3'⟩, ⟨o4, o4'⟩, ⟨o5, o5'⟩, ⟨o6, o6'⟩, ⟨o7, o7'⟩, -⟩ := hs
  have hl : (hX s c ++ r).length = 20 + r.length := by rw [List.length_append, hX_len]
  refine ⟨?_, ?_, ?_, ?_, ?_, ?_, ?_, ?_⟩
  · rw [get16_in (by omega) (by omega)]
    show ((ub _).toNat : Int) * 256 + ((ub _).toNat : Int) = _
    rw [ub_val, ub_val]; omega
  · rw [get16_in (by omega) (by omega)]
    show ((ub _).toNat : Int) * 256 + ((ub _).toNat : Int) = _
    rw [ub_val, ub_val]; omega
  · rw [get32_in (by omega) (by omega), get16_in (by omega) (by omega), get16_in (by omega) (by omega)]
    show (((ub _).toNat : Int) * 256 + ((ub _).toNat : Int)) * 65536 + (((ub _).toNat : Int) * 256 + ((ub _).toNat : Int)) = _
    rw [ub_val, ub_val, ub_val, ub_val]; omega
  · rw [get32_in (by omega) (by omega), get16_in (by omega) (by omega), get16_in (by omega) (by omega)]
    show (((ub _).toNat : Int) * 256 + ((ub _).toNat : Int)) * 65536 + (((ub _).toNat : Int) * 256 + ((ub _).toNat : Int)) = _
    rw [ub_val, ub_val, ub_val, ub_val]; omega
  · show ((ub _).toNat : Int) = _
    rw [ub_val]; omega
  · show ((ub _).toNat : Int) = _
    rw [ub_val]; omega
  · rw [get16_in (by omega) (by omega)]
    show ((ub _).toNat : Int) * 256 + ((ub _).toNat : Int) = _
    rw [ub_val, ub_val]; omega
  · rw [get16_in (by omega) (by omega)]
    show ((ub _).toNat : Int) * 256 + ((ub _).toNat : Int) = _
    rw [ub_val, ub_val]; omega
theorem sL_wd (s : Seg) : wd (sL s) 8 = 0 := by rw [sL_hX]; rfl
theorem sbE_zero {p : Pkt} {s : Seg} (h : sbE p s = 0) : okOs s.opts = true ∧ wiE p (sN s) = 0 := by
  unfold sbE at h
  split at h
  · rename_i h1; exact ⟨h1, h⟩
  · cases h
theorem wiE_zero {p : Pkt} {n : Nat} (h : wiE p n = 0) : p.opt.length ≤ 40 ∧ p.opt.length % 4 = 0 ∧ 20 + p.opt.length + n ≤ 65535 := by
  unfold wiE at h
  split at h
  · omega
  · split at h <;> omega
theorem sS_sum (p : Pkt) (s : Seg) : psum p 6 (sS p s) = 0 := by
  unfold sS
  exact psum_good (j := 8) (by rw [sL_len]; unfold sN; omega) (sL_wd s)
theorem tc_form {p : Pkt} {s : Seg} (hs : s.Ok) (h : sbE p s = 0) (q : Pkt) (hq : q.proto = 6) (hd : q.dat = sS p s) (hsum : psum q 6 q.dat = 0) : tcE q = 0 ∧ tcS q = s := by
  obtain ⟨hok, hw⟩ := sbE_zero h
  have h40 := okOs_len hok
  have h4 := (optL_len s.opts).2
  have hop := okOs_opts hs.opts hok
  obtain ⟨c, hc⟩ : ∃ c, psum p 6 (sL s) = c := ⟨_, rfl⟩
  have hf := sS_hX p s
  rw [hc] at hf
  obtain ⟨f0, f2, f4, f8, f12, f13, f14, f18⟩ := hX_at hs c (optL s.opts ++ s.dat) h40
  rw [← hf, ← hd] at f0 f2 f4 f8 f12 f13 f14 f18
  have hl : q.dat.length = 20 + (optL s.opts).length + s.dat.length := by rw [hd, sS_len]; rfl
  have hh : hdS q.dat = 20 + (optL s.opts).length := by unfold hdS; rw [f12]; omega
  have ht : (q.dat.take (20 + (optL s.opts).length)).drop 20 = optL s.opts := by
    rw [hd, hf, ← List.append_assoc, List.take_left' (by rw [List.length_append, hX_len]), List.drop_left' (hX_len s c)]
  have hdr : q.dat.drop (20 + (optL s.opts).length) = s.dat := by
    rw [hd, hf, ← List.append_assoc, List.drop_left' (by rw [List.length_append, hX_len])]
  have e : tcE q = 0 := by
    unfold tcE
    rw [hh, ht, hop, if_neg (by simp [hq]), if_neg (by omega), if_neg (by rw [f12]; omega), if_neg (by omega), if_neg (by simp [hsum]), if_neg (by simp)]
  refine ⟨e, ?_⟩
  unfold tcS
  rw [if_pos e]
  unfold rdS
  rw [hh, ht, hop, hdr, f0, f2, f4, f8, f13, f14, f18]
  rfl
theorem sb_back {p : Pkt} {s : Seg} (hs : s.Ok) (h : sbE p s = 0) : tcE (sbP p s) = 0 ∧ tcS (sbP p s) = s ∧ rightP (sbP p s) = true ∧ (sbP p s).src = p.src ∧ (sbP p s).dst = p.dst ∧ (sbP p s).id = p.id ∧ (sbP p s).opt = p.opt := by
  have e : sbP p s = { p with proto := 6, dat := sS p s } := by unfold sbP; rw [if_pos h]
  have hw := wiE_zero (sbE_zero h).2
  have := tc_form hs h (sbP p s) (by rw [e]) (by rw [e]) (by rw [e]; exact sS_sum p s)
  refine ⟨this.1, this.2, ?_, by rw [e], by rw [e], by rw [e], by rw [e]⟩
  rw [e]; unfold rightP
  simp [sS_len]
  omega
theorem dL_at {d : Dgm} (hd : d.Ok) (h : 8 + d.dat.length ≤ 65535) : get16 (dL d) 0 = d.src ∧ get16 (dL d) 2 = d.dst ∧ get16 (dL d) 4 = 8 + (d.dat.length : Int) ∧ get16 (dL d) 6 = 0 ∧ (dL d).drop 8 = d.dat := by
  obtain ⟨⟨a0, a1⟩, ⟨b0, b1⟩⟩ := hd
  have e : dL d = [ub (d.src / 256), ub d.src, ub (d.dst / 256), ub d.dst, ub ((8 + (d.dat.length : Int)) % 65536 / 256), ub ((8 + (d.dat.length : Int)) % 65536), ub (0 / 256), ub 0] ++ d.dat := by simp [dL, twos, two]
  rw [e]
  have hl : ([ub (d.src / 256), ub d.src, ub (d.dst / 256), ub d.dst, ub ((8 + (d.dat.length : Int)) % 65536 / 256), ub ((8 + (d.dat.length : Int)) % 65536), ub (0 / 256), ub 0] ++ d.dat).length = 8 + d.dat.length := by simp; omega
  refine ⟨?_, ?_, ?_, ?_, ?_⟩
  · rw [get16_in (by omega) (by omega)]
    show ((ub _).toNat : Int) * 256 + ((ub _).toNat : Int) = _
    rw [ub_val, ub_val]; omega
  · rw [get16_in (by omega) (by omega)]
    show ((ub _).toNat : Int) * 256 + ((ub _).toNat : Int) = _
    rw [ub_val, ub_val]; omega
  · rw [get16_in (by omega) (by omega)]
    show ((ub _).toNat : Int) * 256 + ((ub _).toNat : Int) = _
    rw [ub_val, ub_val]; omega
  · rw [get16_in (by omega) (by omega)]
    show ((ub _).toNat : Int) * 256 + ((ub _).toNat : Int) = _
    rw [ub_val, ub_val]; omega
  · exact List.drop_left' (by simp)
theorem dZ_ok (p : Pkt) (d : Dgm) : 1 ≤ dZ p d ∧ dZ p d ≤ 65535 := by
  have h0 := csum_lo (pseudo p.src p.dst 17 (dL d).length ++ dL d)
  have h1 := csum_hi (pseudo p.src p.dst 17 (dL d).length ++ dL d)
  have e : dZ p d = if csum (pseudo p.src p.dst 17 (dL d).length ++ dL d) = 0 then 65535 else csum (pseudo p.src p.dst 17 (dL d).length ++ dL d) := rfl
  rw [e]
  split <;> omega
theorem dL_wd {d : Dgm} (hd : d.Ok) (h : 8 + d.dat.length ≤ 65535) : wd (dL d) 3 = 0 := by
  have := (dL_at hd h).2.2.2.1
  rw [← get16_wd (l := dL d) (j := 3) (by rw [dL_len]; omega)]
  exact this
theorem dS_sum {p : Pkt} {d : Dgm} (hd : d.Ok) (h : 8 + d.dat.length ≤ 65535) (hb : d.bare = false) : psum p 17 (dS p d) = 0 := by
  have hl : 2 * 3 + 2 ≤ (dL d).length := by rw [dL_len]; omega
  unfold dS
  rw [hb]
  show psum p 17 (put16 (dL d) ((2 * 3 : Nat) : Int) (dZ p d)) = 0
  unfold dZ
  split
  · rename_i h0; exact psum_good2 hl (dL_wd hd h) h0
  · exact psum_good hl (dL_wd hd h)
theorem dS_at {p : Pkt} {d : Dgm} (hd : d.Ok) (h : 8 + d.dat.length ≤ 65535) : get16 (dS p d) 0 = d.src ∧ get16 (dS p d) 2 = d.dst ∧ get16 (dS p d) 4 = 8 + (d.dat.length : Int) ∧ (get16 (dS p d) 6 == 0) = d.bare ∧ (dS p d).drop 8 = d.dat := by
  obtain ⟨h0, h2, h4, h6, h8⟩ := dL_at hd h
  have hl := dL_len d
  obtain ⟨z0, z1⟩ := dZ_ok p d
  unfold dS
  cases hb : d.bare with
  | true => exact ⟨h0, h2, h4, by simpa using h6, h8⟩
  | false =>
    show get16 (put16 (dL d) ((6 : Nat) : Int) (dZ p d)) ((0 : Nat) : Int) = _ ∧ get16 (put16 (dL d) ((6 : Nat) : Int) (dZ p d)) ((2 : Nat) : Int) = _ ∧ get16 (put16 (dL d) ((6 : Nat) : Int) (dZ p d)) ((4 : Nat) : Int) = _ ∧ (get16 (put16 (dL d) ((6 : Nat) : Int) (dZ p d)) ((6 : Nat) : Int) == 0) = _ ∧ (put16 (dL d) ((6 : Nat) : Int) (dZ p d)).drop 8 = _
    rw [get16_put16_far (by omega) (by omega) (by omega), get16_put16_far (by omega) (by omega) (by omega), get16_put16_far (by omega) (by omega) (by omega), get16_put16 (by omega) z1 (by omega)]
    refine ⟨h0, h2, h4, by simp; omega, ?_⟩
    rw [put16_eq (by omega), List.drop_set_of_lt (by omega), List.drop_set_of_lt (by omega)]
    exact h8
theorem ud_form {p q : Pkt} {d : Dgm} (hd : d.Ok) (h : 8 + d.dat.length ≤ 65535) (h17 : q.proto = 17) (hq : q.dat = dS p d) (hs : d.bare = true ∨ psum q 17 q.dat = 0) : udE q = 0 ∧ udD q = d := by
  obtain ⟨h0, h2, h4, h6, h8⟩ := dS_at (p := p) hd h
  rw [← hq] at h0 h2 h4 h6 h8
  have hl : q.dat.length = 8 + d.dat.length := by rw [hq, dS_len]
  have e : udE q = 0 := by
    unfold udE
    rw [if_neg (by simp [h17]), if_neg (by omega), if_neg (by rw [h4, hl]; simp), if_neg]
    rintro ⟨h9, h10⟩
    rcases hs with hs | hs
    · rw [hs] at h6
      exact h9 (by simpa using h6)
    · exact h10 hs
  refine ⟨e, ?_⟩
  unfold udD
  rw [if_pos e]
  unfold rdD
  rw [h0, h2, h6, h8]
theorem db_form {p : Pkt} {d : Dgm} (h : dbE p d = 0) : dbP p d = { p with proto := 17, dat := dS p d } ∧ p.opt.length ≤ 40 ∧ p.opt.length % 4 = 0 ∧ 20 + p.opt.length + (8 + d.dat.length) ≤ 65535 := by
  have hw := wiE_zero h
  refine ⟨?_, hw⟩
  unfold dbP withP
  rw [dS_len]
  unfold dbE at h
  rw [if_pos h]
theorem db_back {p : Pkt} {d : Dgm} (hd : d.Ok) (h : dbE p d = 0) : udE (dbP p d) = 0 ∧ udD (dbP p d) = d ∧ rightP (dbP p d) = true ∧ (dbP p d).ttl = p.ttl := by
  obtain ⟨e, h1, h2, h3⟩ := db_form h
  have h8 : 8 + d.dat.length ≤ 65535 := by omega
  have hs : d.bare = true ∨ psum (dbP p d) 17 (dbP p d).dat = 0 := by
    cases hb : d.bare with
    | true => exact .inl rfl
    | false => right; rw [e]; exact dS_sum hd h8 hb
  have := ud_form hd h8 (q := dbP p d) (p := p) (by rw [e]) (by rw [e]) hs
  refine ⟨this.1, this.2, ?_, by rw [e]⟩
  rw [e]; unfold rightP
  simp [dS_len]
  omega
end Go.Proofs.Ythgoffbfgdgkpaa

namespace Go.Proofs.Ythgoffbfgdgkpaa
open Go.RowKit
set_option linter.unusedVariables false
set_option linter.unusedSimpArgs false
set_option linter.unusedSimpArgs false
set_option maxHeartbeats 4000000
set_option maxRecDepth 100000

theorem rbicmp_4 (p : Pkt) (A1 : Option Addr) (n1 c1 : Nat) (A2 : Option Addr) (n2 c2 : Nat) (m : Msg) (B1 : Option Addr) (m1 d1 : Nat) (w : World) (k1 : Bs w A1 n1 c1 p.opt) (j1 : Bs w B1 m1 d1 m.dat)
    (h : 40 < (n1 : Int) ∨ n1 % 4 ≠ 0) :
    Calls Try.prog 21 #[(.agg #[.int .u8 (p).tos, .int .u16 (p).id, .bool (p).keep, .int .u8 (p).ttl, .int .u8 (p).proto, .int .u32 (p).src, .int .u32 (p).dst, .slice A1 n1 c1, .slice A2 n2 c2]), (.agg #[.int .u8 (m).ty, .int .u8 (m).code, .int .u32 (m).rest, .slice B1 m1 d1])] w (WiPost w zP 4) := by
  have hw0 : ∀ W, Bs W A1 n1 c1 p.opt → Calls Try.prog 37 #[(.agg #[.int .u8 (p).tos, .int .u16 (p).id, .bool (p).keep, .int .u8 (p).ttl, .int .u8 (p).proto, .int .u32 (p).src, .int .u32 (p).dst, .slice A1 n1 c1, .slice A2 n2 c2]), .int .u8 1, .slice none 0 0] W (fun e w' => ∃ C1 e1 f1 C2 e2 f2, e = .returned (.tuple #[.agg #[.int .u8 0, .int .u16 0, .bool false, .int .u8 0, .int .u8 0, .int .u32 0, .int .u32 0, .slice C1 e1 f1, .slice C2 e2 f2], .int .i64 4]) ∧ Own w' W.heap.size 5 C1 e1 f1 [] ∧ Own w' W.heap.size 5 C2 e2 f2 [] ∧ Below W.heap.size W w') := fun W kk => by
    have hh := rwith_any p A1 n1 c1 A2 n2 c2 1 none 0 0 [] W kk (Bs.none_ W)
    unfold withP at hh
    rw [wiE_4 k1.len h, if_neg (by decide)] at hh
    exact hh.mono fun e w' hq => hq.out
  have b1 := j1.max
  obtain ⟨k, hk⟩ : ∃ k : Nat, w.heap.size = k := ⟨_, rfl⟩
  obtain ⟨w1, hw1⟩ : ∃ w1, ((w.alloc (.cells #[.int .u8 (p).tos, .int .u16 (p).id, .bool (p).keep, .int .u8 (p).ttl, .int .u8 (p).proto, .int .u32 (p).src, .int .u32 (p).dst, .slice A1 n1 c1, .slice A2 n2 c2] 26)).alloc (.cells #[.int .u8 (m).ty, .int .u8 (m).code, .int .u32 (m).rest, .slice B1 m1 d1] 49)).alloc (.cells #[.int .u8 0, .int .u16 0, .bool false, .int .u8 0, .int .u8 0, .int .u32 0, .int .u32 0, .slice none 0 0, .slice none 0 0] 26) = w1 := ⟨_, rfl⟩
  have P1 : Blk w1 k #[.int .u8 (p).tos, .int .u16 (p).id, .bool (p).keep, .int .u8 (p).ttl, .int .u8 (p).proto, .int .u32 (p).src, .int .u32 (p).dst, .slice A1 n1 c1, .slice A2 n2 c2] 26 := by rw [← hw1]; exact ((blk_new w _ _ k hk).alloc _).alloc _
  have M1 : Blk w1 (k + 1) #[.int .u8 (m).ty, .int .u8 (m).code, .int .u32 (m).rest, .slice B1 m1 d1] 49 := by rw [← hw1]; exact (blk_new _ _ _ (k + 1) (by simp [hk])).alloc _
  have Z1 : Blk w1 (k + 1 + 1) #[.int .u8 0, .int .u16 0, .bool false, .int .u8 0, .int .u8 0, .int .u32 0, .int .u32 0, .slice none 0 0, .slice none 0 0] 26 := by rw [← hw1]; exact blk_new _ _ _ (k + 1 + 1) (by simp [hk])
  have R1 : Below w.heap.size w w1 := by rw [← hw1]; (repeat (first | with_reducible exact Below.refl _ _ | with_reducible refine below_drew ?_ | with_reducible refine below_drewN ?_ _ | with_reducible refine below_alloc ?_ (Nat.le_refl _) _ | with_reducible refine Below.setCell ?_ (by first | exact Nat.le_refl _ | (simp only []; omega)) _ | with_reducible assumption))
  have x1 := k1.below R1
  have y1 := j1.below R1
  have pc := P1.cell
  have mc := M1.cell
  have kl1 := P1.lt
  have ml1 := M1.lt
  go_enter Try.func21, Try.ntmps21
  go_wp2_with (go_at_call 37; ((with_reducible refine (hw0 w1 x1).mono ?_); rintro e w4 ⟨C1, e1, f1, C2, e2, f2, rfl, O1, O2, hB4⟩); (obtain ⟨w5, hw5⟩ : ∃ w5, w4.alloc (.cells #[.int .u8 0, .int .u16 0, .bool false, .int .u8 0, .int .u8 0, .int .u32 0, .int .u32 0, .slice C1 e1 f1, .slice C2 e2 f2] 26) = w5 := ⟨_, rfl⟩); have V5 : Below w4.heap.size w4 w5 := (by rw [← hw5]; (repeat (first | with_reducible exact Below.refl _ _ | with_reducible refine below_drew ?_ | with_reducible refine below_drewN ?_ _ | with_reducible refine below_alloc ?_ (Nat.le_refl _) _ | with_reducible refine Below.setCell ?_ (by first | exact Nat.le_refl _ | (simp only []; omega)) _ | with_reducible assumption))); have T5 := below_then hB4 V5; have P5 := P1.below T5; have M5 := M1.below T5; have Z5 := Z1.below T5; have pc5 := P5.cell; have mc5 := M5.cell; have zc5 := Z5.cell; have kl5 := P5.lt; have ml5 := M5.lt)
  obtain ⟨wf, hwf, Sf⟩ := store9 Z5 (.int .u8 0) (.int .u16 0) (.bool false) (.int .u8 0) (.int .u8 0) (.int .u32 0) (.int .u32 0) (.slice none 0 0) (.slice none 0 0)
  rw [hwf]
  have pf := Sf.blk.cell
  exact bodyPost_ret (by simp [results, Try.results21, go_sem, pf]) rfl (wiPost_no (Sf.bel (below_then R1 T5) (by omega)))
theorem rbicmp_8 (p : Pkt) (A1 : Option Addr) (n1 c1 : Nat) (A2 : Option Addr) (n2 c2 : Nat) (m : Msg) (B1 : Option Addr) (m1 d1 : Nat) (w : World) (k1 : Bs w A1 n1 c1 p.opt) (j1 : Bs w B1 m1 d1 m.dat)
    (h1 : (n1 : Int) ≤ 40) (h2 : n1 % 4 = 0) (h3 : 65535 < 28 + (n1 : Int) + m1) :
    Calls Try.prog 21 #[(.agg #[.int .u8 (p).tos, .int .u16 (p).id, .bool (p).keep, .int .u8 (p).ttl, .int .u8 (p).proto, .int .u32 (p).src, .int .u32 (p).dst, .slice A1 n1 c1, .slice A2 n2 c2]), (.agg #[.int .u8 (m).ty, .int .u8 (m).code, .int .u32 (m).rest, .slice B1 m1 d1])] w (WiPost w zP 8) := by
  have hw0 : ∀ W, Bs W A1 n1 c1 p.opt → Calls Try.prog 37 #[(.agg #[.int .u8 (p).tos, .int .u16 (p).id, .bool (p).keep, .int .u8 (p).ttl, .int .u8 (p).proto, .int .u32 (p).src, .int .u32 (p).dst, .slice A1 n1 c1, .slice A2 n2 c2]), .int .u8 1, .slice none 0 0] W (fun e w' => ∃ C1 e1 f1 C2 e2 f2, e = .returned (.tuple #[.agg #[.int .u8 p.tos, .int .u16 p.id, .bool p.keep, .int .u8 p.ttl, .int .u8 1, .int .u32 p.src, .int .u32 p.dst, .slice C1 e1 f1, .slice C2 e2 f2], .int .i64 0]) ∧ Own w' W.heap.size 5 C1 e1 f1 p.opt ∧ Own w' W.heap.size 5 C2 e2 f2 [] ∧ Below W.heap.size W w') := fun W kk => by
    have hh := rwith_any p A1 n1 c1 A2 n2 c2 1 none 0 0 [] W kk (Bs.none_ W)
    unfold withP at hh
    rw [show ([] : List UInt8).length = 0 from rfl, wiE_0 k1.len h1 h2 (by omega), if_pos rfl] at hh
    exact hh.mono fun e w' hq => hq.out
  have b1 := j1.max
  obtain ⟨k, hk⟩ : ∃ k : Nat, w.heap.size = k := ⟨_, rfl⟩
  obtain ⟨w1, hw1⟩ : ∃ w1, ((w.alloc (.cells #[.int .u8 (p).tos, .int .u16 (p).id, .bool (p).keep, .int .u8 (p).ttl, .int .u8 (p).proto, .int .u32 (p).src, .int .u32 (p).dst, .slice A1 n1 c1, .slice A2 n2 c2] 26)).alloc (.cells #[.int .u8 (m).ty, .int .u8 (m).code, .int .u32 (m).rest, .slice B1 m1 d1] 49)).alloc (.cells #[.int .u8 0, .int .u16 0, .bool false, .int .u8 0, .int .u8 0, .int .u32 0, .int .u32 0, .slice none 0 0, .slice none 0 0] 26) = w1 := ⟨_, rfl⟩
  have P1 : Blk w1 k #[.int .u8 (p).tos, .int .u16 (p).id, .bool (p).keep, .int .u8 (p).ttl, .int .u8 (p).proto, .int .u32 (p).src, .int .u32 (p).dst, .slice A1 n1 c1, .slice A2 n2 c2] 26 := by rw [← hw1]; exact ((blk_new w _ _ k hk).alloc _).alloc _
  have M1 : Blk w1 (k + 1) #[.int .u8 (m).ty, .int .u8 (m).code, .int .u32 (m).rest, .slice B1 m1 d1] 49 := by rw [← hw1]; exact (blk_new _ _ _ (k + 1) (by simp [hk])).alloc _
  have Z1 : Blk w1 (k + 1 + 1) #[.int .u8 0, .int .u16 0, .bool false, .int .u8 0, .int .u8 0, .int .u32 0, .int .u32 0, .slice none 0 0, .slice none 0 0] 26 := by rw [← hw1]; exact blk_new _ _ _ (k + 1 + 1) (by simp [hk])
  have R1 : Below w.heap.size w w1 := by rw [← hw1]; (repeat (first | with_reducible exact Below.refl _ _ | with_reducible refine below_drew ?_ | with_reducible refine below_drewN ?_ _ | with_reducible refine below_alloc ?_ (Nat.le_refl _) _ | with_reducible refine Below.setCell ?_ (by first | exact Nat.le_refl _ | (simp only []; omega)) _ | with_reducible assumption))
  have x1 := k1.below R1
  have y1 := j1.below R1
  have pc := P1.cell
  have mc := M1.cell
  have kl1 := P1.lt
  have ml1 := M1.lt
  go_enter Try.func21, Try.ntmps21
  go_wp2_with (go_at_call 37; ((with_reducible refine (hw0 w1 x1).mono ?_); rintro e w4 ⟨C1, e1, f1, C2, e2, f2, rfl, O1, O2, hB4⟩); (obtain ⟨w5, hw5⟩ : ∃ w5, w4.alloc (.cells #[.int .u8 p.tos, .int .u16 p.id, .bool p.keep, .int .u8 p.ttl, .int .u8 1, .int .u32 p.src, .int .u32 p.dst, .slice C1 e1 f1, .slice C2 e2 f2] 26) = w5 := ⟨_, rfl⟩); have V5 : Below w4.heap.size w4 w5 := (by rw [← hw5]; (repeat (first | with_reducible exact Below.refl _ _ | with_reducible refine below_drew ?_ | with_reducible refine below_drewN ?_ _ | with_reducible refine below_alloc ?_ (Nat.le_refl _) _ | with_reducible refine Below.setCell ?_ (by first | exact Nat.le_refl _ | (simp only []; omega)) _ | with_reducible assumption))); have T5 := below_then hB4 V5; have P5 := P1.below T5; have M5 := M1.below T5; have Z5 := Z1.below T5; have pc5 := P5.cell; have mc5 := M5.cell; have zc5 := Z5.cell; have kl5 := P5.lt; have ml5 := M5.lt)
  obtain ⟨wf, hwf, Sf⟩ := store9 Z5 (.int .u8 0) (.int .u16 0) (.bool false) (.int .u8 0) (.int .u8 0) (.int .u32 0) (.int .u32 0) (.slice none 0 0) (.slice none 0 0)
  rw [hwf]
  have pf := Sf.blk.cell
  exact bodyPost_ret (by simp [results, Try.results21, go_sem, pf]) rfl (wiPost_no (Sf.bel (below_then R1 T5) (by omega)))
theorem rbicmp_0 (p : Pkt) (A1 : Option Addr) (n1 c1 : Nat) (A2 : Option Addr) (n2 c2 : Nat) (m : Msg) (hm : m.Ok) (B1 : Option Addr) (m1 d1 : Nat) (w : World) (k1 : Bs w A1 n1 c1 p.opt) (j1 : Bs w B1 m1 d1 m.dat)
    (h1 : (n1 : Int) ≤ 40) (h2 : n1 % 4 = 0) (h3 : 28 + (n1 : Int) + m1 ≤ 65535) :
    Calls Try.prog 21 #[(.agg #[.int .u8 (p).tos, .int .u16 (p).id, .bool (p).keep, .int .u8 (p).ttl, .int .u8 (p).proto, .int .u32 (p).src, .int .u32 (p).dst, .slice A1 n1 c1, .slice A2 n2 c2]), (.agg #[.int .u8 (m).ty, .int .u8 (m).code, .int .u32 (m).rest, .slice B1 m1 d1])] w (WiPost w { p with proto := 1, dat := mS m } 0) := by
  have hw0 : ∀ W, Bs W A1 n1 c1 p.opt → Calls Try.prog 37 #[(.agg #[.int .u8 (p).tos, .int .u16 (p).id, .bool (p).keep, .int .u8 (p).ttl, .int .u8 (p).proto, .int .u32 (p).src, .int .u32 (p).dst, .slice A1 n1 c1, .slice A2 n2 c2]), .int .u8 1, .slice none 0 0] W (fun e w' => ∃ C1 e1 f1 C2 e2 f2, e = .returned (.tuple #[.agg #[.int .u8 p.tos, .int .u16 p.id, .bool p.keep, .int .u8 p.ttl, .int .u8 1, .int .u32 p.src, .int .u32 p.dst, .slice C1 e1 f1, .slice C2 e2 f2], .int .i64 0]) ∧ Own w' W.heap.size 5 C1 e1 f1 p.opt ∧ Own w' W.heap.size 5 C2 e2 f2 [] ∧ Below W.heap.size W w') := fun W kk => by
    have hh := rwith_any p A1 n1 c1 A2 n2 c2 1 none 0 0 [] W kk (Bs.none_ W)
    unfold withP at hh
    rw [show ([] : List UInt8).length = 0 from rfl, wiE_0 k1.len h1 h2 (by omega), if_pos rfl] at hh
    exact hh.mono fun e w' hq => hq.out
  have hw1' : ∀ W A n c, Bs W A1 n1 c1 p.opt → Bs W A n c (mS m) → Calls Try.prog 37 #[(.agg #[.int .u8 (p).tos, .int .u16 (p).id, .bool (p).keep, .int .u8 (p).ttl, .int .u8 (p).proto, .int .u32 (p).src, .int .u32 (p).dst, .slice A1 n1 c1, .slice A2 n2 c2]), .int .u8 1, .slice A n c] W (fun e w' => ∃ C1 e1 f1 C2 e2 f2, e = .returned (.tuple #[.agg #[.int .u8 p.tos, .int .u16 p.id, .bool p.keep, .int .u8 p.ttl, .int .u8 1, .int .u32 p.src, .int .u32 p.dst, .slice C1 e1 f1, .slice C2 e2 f2], .int .i64 0]) ∧ Own w' W.heap.size 5 C1 e1 f1 p.opt ∧ Own w' W.heap.size 5 C2 e2 f2 (mS m) ∧ Below W.heap.size W w') := fun W A n c kk ks => by
    have hh := rwith_any p A1 n1 c1 A2 n2 c2 1 A n c (mS m) W kk ks
    unfold withP at hh
    rw [mS_len, j1.len, wiE_0 k1.len h1 h2 (by omega), if_pos rfl] at hh
    exact hh.mono fun e w' hq => hq.out
  have b1 := j1.max
  have jl := j1.len
  obtain ⟨⟨t0, t1⟩, ⟨u0, u1⟩, ⟨r0, r1⟩⟩ := hm
  have L4 := fun W => lit4 (e := 5) (x := m.ty) (y := m.code) (z := 0) (u := 0) t0 t1 u0 u1 (by omega) (by omega) (by omega) (by omega) W
  have HM : Hid ([ub m.ty, ub m.code, ub 0, ub 0] ++ four m.rest ++ m.dat = mL m) := rfl
  have HS : Hid (put16 (mL m) 2 (csum (mL m)) = mS m) := rfl
  have HL : Hid ((mL m).length = 8 + m1) := by unfold Hid; rw [mL_len, jl]
  clear jl
  obtain ⟨k, hk⟩ : ∃ k : Nat, w.heap.size = k := ⟨_, rfl⟩
  obtain ⟨w1, hw1⟩ : ∃ w1, ((w.alloc (.cells #[.int .u8 (p).tos, .int .u16 (p).id, .bool (p).keep, .int .u8 (p).ttl, .int .u8 (p).proto, .int .u32 (p).src, .int .u32 (p).dst, .slice A1 n1 c1, .slice A2 n2 c2] 26)).alloc (.cells #[.int .u8 (m).ty, .int .u8 (m).code, .int .u32 (m).rest, .slice B1 m1 d1] 49)).alloc (.cells #[.int .u8 0, .int .u16 0, .bool false, .int .u8 0, .int .u8 0, .int .u32 0, .int .u32 0, .slice none 0 0, .slice none 0 0] 26) = w1 := ⟨_, rfl⟩
  have P1 : Blk w1 k #[.int .u8 (p).tos, .int .u16 (p).id, .bool (p).keep, .int .u8 (p).ttl, .int .u8 (p).proto, .int .u32 (p).src, .int .u32 (p).dst, .slice A1 n1 c1, .slice A2 n2 c2] 26 := by rw [← hw1]; exact ((blk_new w _ _ k hk).alloc _).alloc _
  have M1 : Blk w1 (k + 1) #[.int .u8 (m).ty, .int .u8 (m).code, .int .u32 (m).rest, .slice B1 m1 d1] 49 := by rw [← hw1]; exact (blk_new _ _ _ (k + 1) (by simp [hk])).alloc _
  have Z1 : Blk w1 (k + 1 + 1) #[.int .u8 0, .int .u16 0, .bool false, .int .u8 0, .int .u8 0, .int .u32 0, .int .u32 0, .slice none 0 0, .slice none 0 0] 26 := by rw [← hw1]; exact blk_new _ _ _ (k + 1 + 1) (by simp [hk])
  have R1 : Below w.heap.size w w1 := by rw [← hw1]; (repeat (first | with_reducible exact Below.refl _ _ | with_reducible refine below_drew ?_ | with_reducible refine below_drewN ?_ _ | with_reducible refine below_alloc ?_ (Nat.le_refl _) _ | with_reducible refine Below.setCell ?_ (by first | exact Nat.le_refl _ | (simp only []; omega)) _ | with_reducible assumption))
  have x1 := k1.below R1
  have y1 := j1.below R1
  have pc := P1.cell
  have mc := M1.cell
  have kl1 := P1.lt
  have ml1 := M1.lt
  go_enter Try.func21, Try.ntmps21
  go_wp2_with (go_at_call 37; ((with_reducible refine (hw0 w1 x1).mono ?_); rintro e w4 ⟨C1, e1, f1, C2, e2, f2, rfl, O1, O2, hB4⟩); (obtain ⟨w5, hw5⟩ : ∃ w5, w4.alloc (.cells #[.int .u8 p.tos, .int .u16 p.id, .bool p.keep, .int .u8 p.ttl, .int .u8 1, .int .u32 p.src, .int .u32 p.dst, .slice C1 e1 f1, .slice C2 e2 f2] 26) = w5 := ⟨_, rfl⟩); have V5 : Below w4.heap.size w4 w5 := (by rw [← hw5]; (repeat (first | with_reducible exact Below.refl _ _ | with_reducible refine below_drew ?_ | with_reducible refine below_drewN ?_ _ | with_reducible refine below_alloc ?_ (Nat.le_refl _) _ | with_reducible refine Below.setCell ?_ (by first | exact Nat.le_refl _ | (simp only []; omega)) _ | with_reducible assumption))); have T5 := below_then hB4 V5; have P5 := P1.below T5; have M5 := M1.below T5; have Z5 := Z1.below T5; have pc5 := P5.cell; have mc5 := M5.cell; have zc5 := Z5.cell; have kl5 := P5.lt; have ml5 := M5.lt)
  obtain ⟨w6, hw6⟩ : ∃ w6, w5.alloc (.cells #[.int .u8 m.ty, .int .u8 m.code, .int .u8 0, .int .u8 0] 5) = w6 := ⟨_, rfl⟩
  have OL := L4 w5
  have V6 : Below w5.heap.size w5 w6 := by rw [← hw6]; (repeat (first | with_reducible exact Below.refl _ _ | with_reducible refine below_drew ?_ | with_reducible refine below_drewN ?_ _ | with_reducible refine below_alloc ?_ (Nat.le_refl _) _ | with_reducible refine Below.setCell ?_ (by first | exact Nat.le_refl _ | (simp only []; omega)) _ | with_reducible assumption))
  rw [hw6] at OL ⊢
  have M6 := M5.below V6
  have P6 := P5.below V6
  have Z6 := Z5.below V6
  have T6 := below_then T5 V6
  have y6 := y1.below T6
  have v6s := V6.size
  clear hw6 hw5 pc5 mc5 zc5 pc mc
  refine region_txt 7 (by kernel_rfl) (by kernel_rfl) ?_; (iterate 7 (first | (apply ObsK.skip (by rfl)) | (apply ObsK.v (by rfl); (intro wo hT; (repeat (first | (intro v hv; (fail)) | (intro _ _ k; try have hcv := cv k))); (have mc := (M6.below hT).cell; have hsz : w5.heap.size ≤ wo.heap.size := Nat.le_trans v6s hT.size); refine Goes.mk ?_; first | (exact goes_app _ _ rfl rfl (OL.below hT) rfl (by assumption) (by omega) hsz) | (go_simp; first | exact goes_v | exact goes_b (by assumption) | fail | (refine goes_enter ?_; first | (go_at_call 34; ((with_reducible refine (four_any m.rest r0 r1 wo).mono ?_); rintro e w9 ⟨A9, c9, rfl, ho9, hB9⟩); exact ret_b ho9.bs hB9))))) | (apply ObsK.b (by rfl); (intro wo hT; (repeat (first | (intro v hv; (fail)) | (intro _ _ k; try have hcv := cv k))); (have mc := (M6.below hT).cell; have hsz : w5.heap.size ≤ wo.heap.size := Nat.le_trans v6s hT.size); refine Goes.mk ?_; first | (exact goes_app _ _ rfl rfl (OL.below hT) rfl (by assumption) (by omega) hsz) | (go_simp; first | exact goes_v | exact goes_b (by assumption) | fail | (refine goes_enter ?_; first | (go_at_call 34; ((with_reducible refine (four_any m.rest r0 r1 wo).mono ?_); rintro e w9 ⟨A9, c9, rfl, ho9, hB9⟩); exact ret_b ho9.bs hB9))))) | (apply ObsK.p (q := isW w5.heap.size _) (by rfl) st_isW; (intro wo hT; (repeat (first | (intro v hv; (fail)) | (intro _ _ k; try have hcv := cv k))); (have mc := (M6.below hT).cell; have hsz : w5.heap.size ≤ wo.heap.size := Nat.le_trans v6s hT.size); refine Goes.mk ?_; first | (exact goes_app _ _ rfl rfl (OL.below hT) rfl (by assumption) (by omega) hsz) | (go_simp; first | exact goes_v | exact goes_b (by assumption) | fail | (refine goes_enter ?_; first | (go_at_call 34; ((with_reducible refine (four_any m.rest r0 r1 wo).mono ?_); rintro e w9 ⟨A9, c9, rfl, ho9, hB9⟩); exact ret_b ho9.bs hB9))))))); refine ObsK.nil ?_; intro wz hBz; simp only [finOn, List.drop_succ_cons, List.drop_zero, List.drop_nil]
  rintro v7 ⟨A7, n7, c7, rfl, O7⟩ A9 c9 k9
  go_simp
  have u7 : n7 = 8 := by rw [← O7.len]; rfl
  subst u7
  have y7 := y6.below hBz
  have V7 := below_then V6 hBz
  go_wp2_with (first
    | (at_builtin; refine wpList_append_bs (w0 := w5) _ rfl _ _ _ rfl w5.heap.size 5 Try.underlying24 info_u8 A7 8 c7 _ rfl O7 B1 m1 d1 m.dat rfl y7 V7 (by omega) (by first | exact Nat.le_refl _ | exact Below.size V7 | omega | (simp <;> omega)) ?_; intro A8 n8 c8 w8 ho8 hB8 _ hz8; rw [HM.out] at ho8))
  have T8 := below_then T5 hB8
  have P8 := P1.below T8
  have Z8 := Z1.below T8
  have x8 := x1.below T8
  have o8 := ho8.bs
  have l8 : n8 ≤ 65535 := by rw [← ho8.len, HL.out]; omega
  refine region_txt 8 (by kernel_rfl) (by kernel_rfl) ?_; (iterate 8 (first | (apply ObsK.skip (by rfl)) | (apply ObsK.v (by rfl); (intro wo hT; (repeat (first | (intro v hv; ((first | (obtain ⟨A11, n11, c11, rfl, o11⟩ := hv; have ob11 := o11.bs) | (obtain ⟨D1, g1, h1', D2, g2, h2', rfl, o13, o14⟩ := hv)))) | (intro _ _ k; try have hcv := cv k))); (have qc := (P8.below hT).cell; have bo := o8.below hT; have xo := x8.below hT; have hsz : w8.heap.size ≤ wo.heap.size := hT.size); refine Goes.mk ?_; go_simp; first | exact goes_v | exact goes_b (by assumption) | exact goes_pk (P := { p with proto := 1, dat := mS m }) (by assumption) (by assumption) | (refine goes_enter ?_; first | (go_at_call 40; ((with_reducible refine (rsum_any A8 n8 c8 (mL m) (by omega) wo bo).mono ?_); rintro e w9 ⟨rfl, hB9⟩); exact ret_v hB9) | (go_at_call 38; ((with_reducible refine (rput16_any A8 n8 c8 (mL m) 2 _ (csum_lo _) (csum_hi _) wo bo).mono ?_); rintro e w9 ⟨A9, c9, rfl, ho9, hB9⟩); rw [HS.out] at ho9; exact ret_p (own_isW ho9 hsz) hB9) | (go_at_call 37; ((with_reducible refine (hw1' wo A11 n11 c11 xo ob11).mono ?_); rintro e w12 ⟨D1, g1, h1', D2, g2, h2', rfl, O13, O14, hB12⟩); exact ret_tup (P := { p with proto := 1, dat := mS m }) (O13.mono hsz) (O14.mono hsz) hB12)))) | (apply ObsK.b (by rfl); (intro wo hT; (repeat (first | (intro v hv; ((first | (obtain ⟨A11, n11, c11, rfl, o11⟩ := hv; have ob11 := o11.bs) | (obtain ⟨D1, g1, h1', D2, g2, h2', rfl, o13, o14⟩ := hv)))) | (intro _ _ k; try have hcv := cv k))); (have qc := (P8.below hT).cell; have bo := o8.below hT; have xo := x8.below hT; have hsz : w8.heap.size ≤ wo.heap.size := hT.size); refine Goes.mk ?_; go_simp; first | exact goes_v | exact goes_b (by assumption) | exact goes_pk (P := { p with proto := 1, dat := mS m }) (by assumption) (by assumption) | (refine goes_enter ?_; first | (go_at_call 40; ((with_reducible refine (rsum_any A8 n8 c8 (mL m) (by omega) wo bo).mono ?_); rintro e w9 ⟨rfl, hB9⟩); exact ret_v hB9) | (go_at_call 38; ((with_reducible refine (rput16_any A8 n8 c8 (mL m) 2 _ (csum_lo _) (csum_hi _) wo bo).mono ?_); rintro e w9 ⟨A9, c9, rfl, ho9, hB9⟩); rw [HS.out] at ho9; exact ret_p (own_isW ho9 hsz) hB9) | (go_at_call 37; ((with_reducible refine (hw1' wo A11 n11 c11 xo ob11).mono ?_); rintro e w12 ⟨D1, g1, h1', D2, g2, h2', rfl, O13, O14, hB12⟩); exact ret_tup (P := { p with proto := 1, dat := mS m }) (O13.mono hsz) (O14.mono hsz) hB12)))) | (apply ObsK.p (q := isW w8.heap.size _) (by rfl) st_isW; (intro wo hT; (repeat (first | (intro v hv; ((first | (obtain ⟨A11, n11, c11, rfl, o11⟩ := hv; have ob11 := o11.bs) | (obtain ⟨D1, g1, h1', D2, g2, h2', rfl, o13, o14⟩ := hv)))) | (intro _ _ k; try have hcv := cv k))); (have qc := (P8.below hT).cell; have bo := o8.below hT; have xo := x8.below hT; have hsz : w8.heap.size ≤ wo.heap.size := hT.size); refine Goes.mk ?_; go_simp; first | exact goes_v | exact goes_b (by assumption) | exact goes_pk (P := { p with proto := 1, dat := mS m }) (by assumption) (by assumption) | (refine goes_enter ?_; first | (go_at_call 40; ((with_reducible refine (rsum_any A8 n8 c8 (mL m) (by omega) wo bo).mono ?_); rintro e w9 ⟨rfl, hB9⟩); exact ret_v hB9) | (go_at_call 38; ((with_reducible refine (rput16_any A8 n8 c8 (mL m) 2 _ (csum_lo _) (csum_hi _) wo bo).mono ?_); rintro e w9 ⟨A9, c9, rfl, ho9, hB9⟩); rw [HS.out] at ho9; exact ret_p (own_isW ho9 hsz) hB9) | (go_at_call 37; ((with_reducible refine (hw1' wo A11 n11 c11 xo ob11).mono ?_); rintro e w12 ⟨D1, g1, h1', D2, g2, h2', rfl, O13, O14, hB12⟩); exact ret_tup (P := { p with proto := 1, dat := mS m }) (O13.mono hsz) (O14.mono hsz) hB12)))) | (apply ObsK.p (q := isTup w8.heap.size { p with proto := 1, dat := mS m } 0) (by rfl) st_isTup; (intro wo hT; (repeat (first | (intro v hv; ((first | (obtain ⟨A11, n11, c11, rfl, o11⟩ := hv; have ob11 := o11.bs) | (obtain ⟨D1, g1, h1', D2, g2, h2', rfl, o13, o14⟩ := hv)))) | (intro _ _ k; try have hcv := cv k))); (have qc := (P8.below hT).cell; have bo := o8.below hT; have xo := x8.below hT; have hsz : w8.heap.size ≤ wo.heap.size := hT.size); refine Goes.mk ?_; go_simp; first | exact goes_v | exact goes_b (by assumption) | exact goes_pk (P := { p with proto := 1, dat := mS m }) (by assumption) (by assumption) | (refine goes_enter ?_; first | (go_at_call 40; ((with_reducible refine (rsum_any A8 n8 c8 (mL m) (by omega) wo bo).mono ?_); rintro e w9 ⟨rfl, hB9⟩); exact ret_v hB9) | (go_at_call 38; ((with_reducible refine (rput16_any A8 n8 c8 (mL m) 2 _ (csum_lo _) (csum_hi _) wo bo).mono ?_); rintro e w9 ⟨A9, c9, rfl, ho9, hB9⟩); rw [HS.out] at ho9; exact ret_p (own_isW ho9 hsz) hB9) | (go_at_call 37; ((with_reducible refine (hw1' wo A11 n11 c11 xo ob11).mono ?_); rintro e w12 ⟨D1, g1, h1', D2, g2, h2', rfl, O13, O14, hB12⟩); exact ret_tup (P := { p with proto := 1, dat := mS m }) (O13.mono hsz) (O14.mono hsz) hB12)))) | (apply ObsK.p (q := isPk w8.heap.size { p with proto := 1, dat := mS m }) (by rfl) st_isPk; (intro wo hT; (repeat (first | (intro v hv; ((first | (obtain ⟨A11, n11, c11, rfl, o11⟩ := hv; have ob11 := o11.bs) | (obtain ⟨D1, g1, h1', D2, g2, h2', rfl, o13, o14⟩ := hv)))) | (intro _ _ k; try have hcv := cv k))); (have qc := (P8.below hT).cell; have bo := o8.below hT; have xo := x8.below hT; have hsz : w8.heap.size ≤ wo.heap.size := hT.size); refine Goes.mk ?_; go_simp; first | exact goes_v | exact goes_b (by assumption) | exact goes_pk (P := { p with proto := 1, dat := mS m }) (by assumption) (by assumption) | (refine goes_enter ?_; first | (go_at_call 40; ((with_reducible refine (rsum_any A8 n8 c8 (mL m) (by omega) wo bo).mono ?_); rintro e w9 ⟨rfl, hB9⟩); exact ret_v hB9) | (go_at_call 38; ((with_reducible refine (rput16_any A8 n8 c8 (mL m) 2 _ (csum_lo _) (csum_hi _) wo bo).mono ?_); rintro e w9 ⟨A9, c9, rfl, ho9, hB9⟩); rw [HS.out] at ho9; exact ret_p (own_isW ho9 hsz) hB9) | (go_at_call 37; ((with_reducible refine (hw1' wo A11 n11 c11 xo ob11).mono ?_); rintro e w12 ⟨D1, g1, h1', D2, g2, h2', rfl, O13, O14, hB12⟩); exact ret_tup (P := { p with proto := 1, dat := mS m }) (O13.mono hsz) (O14.mono hsz) hB12)))))); refine ObsK.nil ?_; intro wz hBz; simp only [finOn, List.drop_succ_cons, List.drop_zero, List.drop_nil]
  rintro v12 ⟨D1, g1, h1', D2, g2, h2', rfl, O13, O14⟩ v13 hv13 v14 hv14
  clear hv13 hv14
  go_simp
  have T11 := below_then T8 hBz
  have Z12 := Z8.below hBz
  have zc12 := Z12.cell
  have zl8 := Z8.lt
  go_wp2_with fail
  obtain ⟨wf, hwf, Sf⟩ := store9 Z12 (.int .u8 p.tos) (.int .u16 p.id) (.bool p.keep) (.int .u8 p.ttl) (.int .u8 1) (.int .u32 p.src) (.int .u32 p.dst) (.slice D1 g1 h1') (.slice D2 g2 h2')
  rw [hwf]
  have pf := Sf.blk.cell
  have Of := Sf.own O13 (fun a e => by have := O13.ge a e; omega)
  have Df := Sf.own O14 (fun a e => by have := O14.ge a e; omega)
  have s11 := (below_then R1 T8).size
  refine bodyPost_ret (v := .tuple #[.agg #[.int .u8 p.tos, .int .u16 p.id, .bool p.keep, .int .u8 p.ttl, .int .u8 1, .int .u32 p.src, .int .u32 p.dst, .slice D1 g1 h1', .slice D2 g2 h2'], .int .i64 0]) (by simp [results, Try.results21, go_sem, pf]) rfl ⟨⟨D1, g1, h1', D2, g2, h2', rfl, Of.mono s11, Df.mono s11, Sf.bel (below_then R1 T11) (by omega)⟩⟩
theorem rbicmp_any (p : Pkt) (A1 : Option Addr) (n1 c1 : Nat) (A2 : Option Addr) (n2 c2 : Nat) (m : Msg) (hm : m.Ok) (B1 : Option Addr) (m1 d1 : Nat) (w : World) (k1 : Bs w A1 n1 c1 p.opt) (j1 : Bs w B1 m1 d1 m.dat) :
    Calls Try.prog 21 #[(.agg #[.int .u8 (p).tos, .int .u16 (p).id, .bool (p).keep, .int .u8 (p).ttl, .int .u8 (p).proto, .int .u32 (p).src, .int .u32 (p).dst, .slice A1 n1 c1, .slice A2 n2 c2]), (.agg #[.int .u8 (m).ty, .int .u8 (m).code, .int .u32 (m).rest, .slice B1 m1 d1])] w (WiPost w (withP p 1 (mS m)) (wiE p (8 + m.dat.length))) := by
  have l1 := k1.len
  unfold withP
  rw [mS_len, j1.len]
  by_cases h1 : (n1 : Int) ≤ 40
  · by_cases h2 : n1 % 4 = 0
    · by_cases h3 : 28 + (n1 : Int) + m1 ≤ 65535
      · rw [wiE_0 l1 h1 h2 (by omega), if_pos rfl]
        exact rbicmp_0 p A1 n1 c1 A2 n2 c2 m hm B1 m1 d1 w k1 j1 h1 h2 h3
      · rw [wiE_8 l1 h1 h2 (by omega), if_neg (by decide)]
        exact rbicmp_8 p A1 n1 c1 A2 n2 c2 m B1 m1 d1 w k1 j1 h1 h2 (by omega)
    · rw [wiE_4 l1 (.inr h2), if_neg (by decide)]
      exact rbicmp_4 p A1 n1 c1 A2 n2 c2 m B1 m1 d1 w k1 j1 (.inr h2)
  · rw [wiE_4 l1 (.inl (by omega)), if_neg (by decide)]
    exact rbicmp_4 p A1 n1 c1 A2 n2 c2 m B1 m1 d1 w k1 j1 (.inl (by omega))
end Go.Proofs.Ythgoffbfgdgkpaa

namespace Go.Proofs.Ythgoffbfgdgkpaa
open Go.RowKit
set_option linter.unusedVariables false
set_option linter.unusedSimpArgs false
set_option linter.unusedSimpArgs false
set_option maxHeartbeats 4000000
set_option maxRecDepth 100000

theorem sx_isTup {B : Nat} {P : Pkt} {E : Int} {g : Nat} (hg : g < B) : ∀ w w' v, isTup B P E w v → w.grownBy w' (some g) → isTup B P E w' v := fun _ _ _ ⟨A, b, c, d, e, f, h, k, l⟩ hE => ⟨A, b, c, d, e, f, h, k.far hE (fun k e => by injection e with e; omega), l.far hE (fun k e => by injection e with e; omega)⟩
theorem sx_isPk {B : Nat} {P : Pkt} {g : Nat} (hg : g < B) : ∀ w w' v, isPk B P w v → w.grownBy w' (some g) → isPk B P w' v := fun _ _ _ ⟨A, b, c, d, e, f, h, k, l⟩ hE => ⟨A, b, c, d, e, f, h, k.far hE (fun k e => by injection e with e; omega), l.far hE (fun k e => by injection e with e; omega)⟩
theorem rbg_bad' (p : Pkt) (A1 : Option Addr) (n1 c1 : Nat) (A2 : Option Addr) (n2 c2 : Nat) (call : Int) (hs ha : Bool) (seq ack : Int) (dat : List UInt8) (B1 : Option Addr) (m1 d1 : Nat) (w : World) (k1 : Bs w A1 n1 c1 p.opt) (j1 : Bs w B1 m1 d1 dat)
    (h : (hs = false ∧ (seq != 0) = true) ∨ ((hs = true ∨ (seq != 0) = false) ∧ ha = false ∧ (ack != 0) = true)) :
    Calls Try.prog 22 #[(.agg #[.int .u8 (p).tos, .int .u16 (p).id, .bool (p).keep, .int .u8 (p).ttl, .int .u8 (p).proto, .int .u32 (p).src, .int .u32 (p).dst, .slice A1 n1 c1, .slice A2 n2 c2]), .agg #[.int .u16 call, .bool hs, .bool ha, .int .u32 seq, .int .u32 ack, .slice B1 m1 d1]] w (WiPost w zP 4) := by
  obtain ⟨k, hk⟩ : ∃ k : Nat, w.heap.size = k := ⟨_, rfl⟩
  obtain ⟨w1, hw1⟩ : ∃ w1, ((w.alloc (.cells #[.int .u8 (p).tos, .int .u16 (p).id, .bool (p).keep, .int .u8 (p).ttl, .int .u8 (p).proto, .int .u32 (p).src, .int .u32 (p).dst, .slice A1 n1 c1, .slice A2 n2 c2] 26)).alloc (.cells #[.int .u16 call, .bool hs, .bool ha, .int .u32 seq, .int .u32 ack, .slice B1 m1 d1] 52)).alloc (.cells #[.int .u8 0, .int .u16 0, .bool false, .int .u8 0, .int .u8 0, .int .u32 0, .int .u32 0, .slice none 0 0, .slice none 0 0] 26) = w1 := ⟨_, rfl⟩
  have P1 : Blk w1 k #[.int .u8 (p).tos, .int .u16 (p).id, .bool (p).keep, .int .u8 (p).ttl, .int .u8 (p).proto, .int .u32 (p).src, .int .u32 (p).dst, .slice A1 n1 c1, .slice A2 n2 c2] 26 := by rw [← hw1]; exact ((blk_new w _ _ k hk).alloc _).alloc _
  have F1 : Blk w1 (k + 1) #[.int .u16 call, .bool hs, .bool ha, .int .u32 seq, .int .u32 ack, .slice B1 m1 d1] 52 := by rw [← hw1]; exact (blk_new _ _ _ (k + 1) (by simp [hk])).alloc _
  have Z1 : Blk w1 (k + 1 + 1) #[.int .u8 0, .int .u16 0, .bool false, .int .u8 0, .int .u8 0, .int .u32 0, .int .u32 0, .slice none 0 0, .slice none 0 0] 26 := by rw [← hw1]; exact blk_new _ _ _ (k + 1 + 1) (by simp [hk])
  have R1 : Below w.heap.size w w1 := by rw [← hw1]; (repeat (first | with_reducible exact Below.refl _ _ | with_reducible refine below_drew ?_ | with_reducible refine below_drewN ?_ _ | with_reducible refine below_alloc ?_ (Nat.le_refl _) _ | with_reducible refine Below.setCell ?_ (by first | exact Nat.le_refl _ | (simp only []; omega)) _ | with_reducible assumption))
  have x1 := k1.below R1
  have y1 := j1.below R1
  have pc := P1.cell
  have mc := F1.cell
  have zc := Z1.cell
  have zl1 := Z1.lt
  obtain ⟨wf, hwf, Sf⟩ := store9 Z1 (.int .u8 0) (.int .u16 0) (.bool false) (.int .u8 0) (.int .u8 0) (.int .u32 0) (.int .u32 0) (.slice none 0 0) (.slice none 0 0)
  have pf := Sf.blk.cell
  have Tf := Sf.bel R1 (by omega)
  have h0 : hs = false ∨ hs = true := by cases hs <;> simp
  rcases h with ⟨h1, h2⟩ | ⟨h1 | h1, h2, h3⟩
  · subst h1
    go_enter Try.func22, Try.ntmps22
    go_wp2_with fail
    exact bodyPost_ret (by simp [results, Try.results22, go_sem, pf]) rfl (wiPost_no Tf)
  · subst h1 h2
    go_enter Try.func22, Try.ntmps22
    go_wp2_with fail
    exact bodyPost_ret (by simp [results, Try.results22, go_sem, pf]) rfl (wiPost_no Tf)
  · subst h2
    rcases h0 with h0 | h0
    all_goals subst h0
    all_goals go_enter Try.func22, Try.ntmps22
    all_goals go_wp2_with fail
    all_goals exact bodyPost_ret (by simp [results, Try.results22, go_sem, pf]) rfl (wiPost_no Tf)
theorem rbg_400 (p : Pkt) (A1 : Option Addr) (n1 c1 : Nat) (A2 : Option Addr) (n2 c2 : Nat) (call : Int) (seq ack : Int) (hsq : (seq != 0) = false) (hac : (ack != 0) = false) (dat : List UInt8) (B1 : Option Addr) (m1 d1 : Nat) (w : World) (k1 : Bs w A1 n1 c1 p.opt) (j1 : Bs w B1 m1 d1 dat)
    (h : 40 < (n1 : Int) ∨ n1 % 4 ≠ 0) :
    Calls Try.prog 22 #[(.agg #[.int .u8 (p).tos, .int .u16 (p).id, .bool (p).keep, .int .u8 (p).ttl, .int .u8 (p).proto, .int .u32 (p).src, .int .u32 (p).dst, .slice A1 n1 c1, .slice A2 n2 c2]), .agg #[.int .u16 call, .bool false, .bool false, .int .u32 seq, .int .u32 ack, .slice B1 m1 d1]] w (WiPost w zP 4) := by
  have hw0 : ∀ W, Bs W A1 n1 c1 p.opt → Calls Try.prog 37 #[(.agg #[.int .u8 (p).tos, .int .u16 (p).id, .bool (p).keep, .int .u8 (p).ttl, .int .u8 (p).proto, .int .u32 (p).src, .int .u32 (p).dst, .slice A1 n1 c1, .slice A2 n2 c2]), .int .u8 47, .slice none 0 0] W (fun e w' => ∃ C1 e1 f1 C2 e2 f2, e = .returned (.tuple #[.agg #[.int .u8 0, .int .u16 0, .bool false, .int .u8 0, .int .u8 0, .int .u32 0, .int .u32 0, .slice C1 e1 f1, .slice C2 e2 f2], .int .i64 4]) ∧ Own w' W.heap.size 5 C1 e1 f1 [] ∧ Own w' W.heap.size 5 C2 e2 f2 [] ∧ Below W.heap.size W w') := fun W kk => by
    have hh := rwith_any p A1 n1 c1 A2 n2 c2 47 none 0 0 [] W kk (Bs.none_ W)
    unfold withP at hh
    rw [wiE_4 k1.len h, if_neg (by decide)] at hh
    exact hh.mono fun e w' hq => hq.out
  have b1 := j1.max
  obtain ⟨k, hk⟩ : ∃ k : Nat, w.heap.size = k := ⟨_, rfl⟩
  obtain ⟨w1, hw1⟩ : ∃ w1, ((w.alloc (.cells #[.int .u8 (p).tos, .int .u16 (p).id, .bool (p).keep, .int .u8 (p).ttl, .int .u8 (p).proto, .int .u32 (p).src, .int .u32 (p).dst, .slice A1 n1 c1, .slice A2 n2 c2] 26)).alloc (.cells #[.int .u16 call, .bool false, .bool false, .int .u32 seq, .int .u32 ack, .slice B1 m1 d1] 52)).alloc (.cells #[.int .u8 0, .int .u16 0, .bool false, .int .u8 0, .int .u8 0, .int .u32 0, .int .u32 0, .slice none 0 0, .slice none 0 0] 26) = w1 := ⟨_, rfl⟩
  have P1 : Blk w1 k #[.int .u8 (p).tos, .int .u16 (p).id, .bool (p).keep, .int .u8 (p).ttl, .int .u8 (p).proto, .int .u32 (p).src, .int .u32 (p).dst, .slice A1 n1 c1, .slice A2 n2 c2] 26 := by rw [← hw1]; exact ((blk_new w _ _ k hk).alloc _).alloc _
  have F1 : Blk w1 (k + 1) #[.int .u16 call, .bool false, .bool false, .int .u32 seq, .int .u32 ack, .slice B1 m1 d1] 52 := by rw [← hw1]; exact (blk_new _ _ _ (k + 1) (by simp [hk])).alloc _
  have Z1 : Blk w1 (k + 1 + 1) #[.int .u8 0, .int .u16 0, .bool false, .int .u8 0, .int .u8 0, .int .u32 0, .int .u32 0, .slice none 0 0, .slice none 0 0] 26 := by rw [← hw1]; exact blk_new _ _ _ (k + 1 + 1) (by simp [hk])
  have R1 : Below w.heap.size w w1 := by rw [← hw1]; (repeat (first | with_reducible exact Below.refl _ _ | with_reducible refine below_drew ?_ | with_reducible refine below_drewN ?_ _ | with_reducible refine below_alloc ?_ (Nat.le_refl _) _ | with_reducible refine Below.setCell ?_ (by first | exact Nat.le_refl _ | (simp only []; omega)) _ | with_reducible assumption))
  have x1 := k1.below R1
  have y1 := j1.below R1
  have pc := P1.cell
  have mc := F1.cell
  have zc := Z1.cell
  have zl1 := Z1.lt
  go_enter Try.func22, Try.ntmps22
  go_wp2_with (go_at_call 37; ((with_reducible refine (hw0 w1 x1).mono ?_); rintro e w4 ⟨C1, e1, f1, C2, e2, f2, rfl, O1, O2, hB4⟩); (obtain ⟨w5, hw5⟩ : ∃ w5, w4.alloc (.cells #[.int .u8 0, .int .u16 0, .bool false, .int .u8 0, .int .u8 0, .int .u32 0, .int .u32 0, .slice C1 e1 f1, .slice C2 e2 f2] 26) = w5 := ⟨_, rfl⟩); have V5 : Below w4.heap.size w4 w5 := (by rw [← hw5]; (repeat (first | with_reducible exact Below.refl _ _ | with_reducible refine below_drew ?_ | with_reducible refine below_drewN ?_ _ | with_reducible refine below_alloc ?_ (Nat.le_refl _) _ | with_reducible refine Below.setCell ?_ (by first | exact Nat.le_refl _ | (simp only []; omega)) _ | with_reducible assumption))); have T5 := below_then hB4 V5; have P5 := P1.below T5; have F5 := F1.below T5; have Z5 := Z1.below T5; have zc5 := Z5.cell)
  obtain ⟨wf, hwf, Sf⟩ := store9 Z5 (.int .u8 0) (.int .u16 0) (.bool false) (.int .u8 0) (.int .u8 0) (.int .u32 0) (.int .u32 0) (.slice none 0 0) (.slice none 0 0)
  rw [hwf]
  have pf := Sf.blk.cell
  exact bodyPost_ret (by simp [results, Try.results22, go_sem, pf]) rfl (wiPost_no (Sf.bel (below_then R1 T5) (by omega)))
theorem rbg_ok00 (p : Pkt) (A1 : Option Addr) (n1 c1 : Nat) (A2 : Option Addr) (n2 c2 : Nat) (call : Int) (seq ack : Int) (hsq : (seq != 0) = false) (hac : (ack != 0) = false) (dat : List UInt8) (B1 : Option Addr) (m1 d1 : Nat) (w : World) (k1 : Bs w A1 n1 c1 p.opt) (j1 : Bs w B1 m1 d1 dat)
    (hca : 0 ≤ call ∧ call ≤ 65535) (hse : 0 ≤ seq ∧ seq ≤ 4294967295) (hak : 0 ≤ ack ∧ ack ≤ 4294967295) (h1 : (n1 : Int) ≤ 40) (h2 : n1 % 4 = 0) (Q : Pkt) (E : Int) (h3 : 20 + (n1 : Int) + 8 + m1 ≤ 65535) (hok : ∀ W A n c, Bs W A1 n1 c1 p.opt → Bs W A n c ((grB false false ++ two ((m1 : Int) % 65536) ++ two call) ++ dat) → Calls Try.prog 37 #[(.agg #[.int .u8 (p).tos, .int .u16 (p).id, .bool (p).keep, .int .u8 (p).ttl, .int .u8 (p).proto, .int .u32 (p).src, .int .u32 (p).dst, .slice A1 n1 c1, .slice A2 n2 c2]), .int .u8 47, .slice A n c] W (WiPost W Q E)) :
    Calls Try.prog 22 #[(.agg #[.int .u8 (p).tos, .int .u16 (p).id, .bool (p).keep, .int .u8 (p).ttl, .int .u8 (p).proto, .int .u32 (p).src, .int .u32 (p).dst, .slice A1 n1 c1, .slice A2 n2 c2]), .agg #[.int .u16 call, .bool false, .bool false, .int .u32 seq, .int .u32 ack, .slice B1 m1 d1]] w (WiPost w Q E) := by
  have hw0 : ∀ W, Bs W A1 n1 c1 p.opt → Calls Try.prog 37 #[(.agg #[.int .u8 (p).tos, .int .u16 (p).id, .bool (p).keep, .int .u8 (p).ttl, .int .u8 (p).proto, .int .u32 (p).src, .int .u32 (p).dst, .slice A1 n1 c1, .slice A2 n2 c2]), .int .u8 47, .slice none 0 0] W (fun e w' => ∃ C1 e1 f1 C2 e2 f2, e = .returned (.tuple #[.agg #[.int .u8 p.tos, .int .u16 p.id, .bool p.keep, .int .u8 p.ttl, .int .u8 47, .int .u32 p.src, .int .u32 p.dst, .slice C1 e1 f1, .slice C2 e2 f2], .int .i64 0]) ∧ Own w' W.heap.size 5 C1 e1 f1 p.opt ∧ Own w' W.heap.size 5 C2 e2 f2 [] ∧ Below W.heap.size W w') := fun W kk => by
    have hh := rwith_any p A1 n1 c1 A2 n2 c2 47 none 0 0 [] W kk (Bs.none_ W)
    unfold withP at hh
    rw [show ([] : List UInt8).length = 0 from rfl, wiE_0 k1.len h1 h2 (by omega), if_pos rfl] at hh
    exact hh.mono fun e w' hq => hq.out
  have b1 := j1.max
  obtain ⟨ca0, ca1⟩ := hca
  obtain ⟨se0, se1⟩ := hse
  obtain ⟨ak0, ak1⟩ := hak
  obtain ⟨z, hz⟩ : ∃ z : Int, (m1 : Int) % 65536 = z := ⟨_, rfl⟩
  have z0 : 0 ≤ z := by omega
  have z1 : z ≤ 65535 := by omega
  have hzw : IntKind.u16.wrap (m1 : Int) = z := by rw [← hz]; simp [IntKind.wrap, IntKind.signed, IntKind.bits]
  rw [hz] at hok
  have L4 := fun W => lit4 (e := 5) (x := 32) (y := 1) (z := 136) (u := 11) (by omega) (by omega) (by omega) (by omega) (by omega) (by omega) (by omega) (by omega) W
  have H0 : Hid ([ub 32, ub 1, ub 136, ub 11] ++ two z ++ two call = grB false false ++ two z ++ two call) := rfl
  obtain ⟨k, hk⟩ : ∃ k : Nat, w.heap.size = k := ⟨_, rfl⟩
  obtain ⟨w1, hw1⟩ : ∃ w1, ((w.alloc (.cells #[.int .u8 (p).tos, .int .u16 (p).id, .bool (p).keep, .int .u8 (p).ttl, .int .u8 (p).proto, .int .u32 (p).src, .int .u32 (p).dst, .slice A1 n1 c1, .slice A2 n2 c2] 26)).alloc (.cells #[.int .u16 call, .bool false, .bool false, .int .u32 seq, .int .u32 ack, .slice B1 m1 d1] 52)).alloc (.cells #[.int .u8 0, .int .u16 0, .bool false, .int .u8 0, .int .u8 0, .int .u32 0, .int .u32 0, .slice none 0 0, .slice none 0 0] 26) = w1 := ⟨_, rfl⟩
  have P1 : Blk w1 k #[.int .u8 (p).tos, .int .u16 (p).id, .bool (p).keep, .int .u8 (p).ttl, .int .u8 (p).proto, .int .u32 (p).src, .int .u32 (p).dst, .slice A1 n1 c1, .slice A2 n2 c2] 26 := by rw [← hw1]; exact ((blk_new w _ _ k hk).alloc _).alloc _
  have F1 : Blk w1 (k + 1) #[.int .u16 call, .bool false, .bool false, .int .u32 seq, .int .u32 ack, .slice B1 m1 d1] 52 := by rw [← hw1]; exact (blk_new _ _ _ (k + 1) (by simp [hk])).alloc _
  have Z1 : Blk w1 (k + 1 + 1) #[.int .u8 0, .int .u16 0, .bool false, .int .u8 0, .int .u8 0, .int .u32 0, .int .u32 0, .slice none 0 0, .slice none 0 0] 26 := by rw [← hw1]; exact blk_new _ _ _ (k + 1 + 1) (by simp [hk])
  have R1 : Below w.heap.size w w1 := by rw [← hw1]; (repeat (first | with_reducible exact Below.refl _ _ | with_reducible refine below_drew ?_ | with_reducible refine below_drewN ?_ _ | with_reducible refine below_alloc ?_ (Nat.le_refl _) _ | with_reducible refine Below.setCell ?_ (by first | exact Nat.le_refl _ | (simp only []; omega)) _ | with_reducible assumption))
  have x1 := k1.below R1
  have y1 := j1.below R1
  have pc := P1.cell
  have mc := F1.cell
  have zc := Z1.cell
  have zl1 := Z1.lt
  go_enter Try.func22, Try.ntmps22
  go_wp2_with (go_at_call 37; ((with_reducible refine (hw0 w1 x1).mono ?_); rintro e w4 ⟨C1, e1, f1, C2, e2, f2, rfl, O1, O2, hB4⟩); (obtain ⟨w5, hw5⟩ : ∃ w5, w4.alloc (.cells #[.int .u8 p.tos, .int .u16 p.id, .bool p.keep, .int .u8 p.ttl, .int .u8 47, .int .u32 p.src, .int .u32 p.dst, .slice C1 e1 f1, .slice C2 e2 f2] 26) = w5 := ⟨_, rfl⟩); have V5 : Below w4.heap.size w4 w5 := (by rw [← hw5]; (repeat (first | with_reducible exact Below.refl _ _ | with_reducible refine below_drew ?_ | with_reducible refine below_drewN ?_ _ | with_reducible refine below_alloc ?_ (Nat.le_refl _) _ | with_reducible refine Below.setCell ?_ (by first | exact Nat.le_refl _ | (simp only []; omega)) _ | with_reducible assumption))); have T5 := below_then hB4 V5; have P5 := P1.below T5; have F5 := F1.below T5; have Z5 := Z1.below T5; have zc5 := Z5.cell)
  obtain ⟨w6, hw6⟩ : ∃ w6, w5.alloc (.cells #[.int .u8 32, .int .u8 1, .int .u8 136, .int .u8 11] 5) = w6 := ⟨_, rfl⟩
  have OL := L4 w5
  have V6 : Below w5.heap.size w5 w6 := by rw [← hw6]; (repeat (first | with_reducible exact Below.refl _ _ | with_reducible refine below_drew ?_ | with_reducible refine below_drewN ?_ _ | with_reducible refine below_alloc ?_ (Nat.le_refl _) _ | with_reducible refine Below.setCell ?_ (by first | exact Nat.le_refl _ | (simp only []; omega)) _ | with_reducible assumption))
  rw [hw6] at OL ⊢
  have T6 := below_then T5 V6
  have F6 := F1.below T6
  have v6s := V6.size
  have v5s := T5.size
  have zl5 := Z5.lt
  clear hw6 hw5 zc5 pc mc zc hw1
  refine region_txt 10 (by kernel_rfl) (by kernel_rfl) ?_; (iterate 10 (first | (apply ObsK.skip (by rfl)) | (apply ObsK.v (by rfl); (intro wo hT; (repeat (first | (intro v hv; (fail)) | (intro _ _ k; try have hcv := cv k))); (have mc := (F6.below hT).cell; have hsz : w5.heap.size ≤ wo.heap.size := Nat.le_trans v6s hT.size); refine Goes.mk ?_; first | (exact goes_app _ _ rfl rfl (OL.below hT) rfl (by assumption) (by omega) hsz) | (go_simp; first | exact goes_v | exact goes_b (by assumption) | fail | (refine goes_enter ?_; first | (go_at_call 35; ((with_reducible refine (two_any z z0 z1 wo).mono ?_); rintro e w9 ⟨A9, c9, rfl, ho9, hB9⟩); exact ret_b ho9.bs hB9) | (go_at_call 35; ((with_reducible refine (two_any call ca0 ca1 wo).mono ?_); rintro e w9 ⟨A9, c9, rfl, ho9, hB9⟩); exact ret_b ho9.bs hB9))))) | (apply ObsK.b (by rfl); (intro wo hT; (repeat (first | (intro v hv; (fail)) | (intro _ _ k; try have hcv := cv k))); (have mc := (F6.below hT).cell; have hsz : w5.heap.size ≤ wo.heap.size := Nat.le_trans v6s hT.size); refine Goes.mk ?_; first | (exact goes_app _ _ rfl rfl (OL.below hT) rfl (by assumption) (by omega) hsz) | (go_simp; first | exact goes_v | exact goes_b (by assumption) | fail | (refine goes_enter ?_; first | (go_at_call 35; ((with_reducible refine (two_any z z0 z1 wo).mono ?_); rintro e w9 ⟨A9, c9, rfl, ho9, hB9⟩); exact ret_b ho9.bs hB9) | (go_at_call 35; ((with_reducible refine (two_any call ca0 ca1 wo).mono ?_); rintro e w9 ⟨A9, c9, rfl, ho9, hB9⟩); exact ret_b ho9.bs hB9))))) | (apply ObsK.p (q := isW w5.heap.size _) (by rfl) st_isW; (intro wo hT; (repeat (first | (intro v hv; (fail)) | (intro _ _ k; try have hcv := cv k))); (have mc := (F6.below hT).cell; have hsz : w5.heap.size ≤ wo.heap.size := Nat.le_trans v6s hT.size); refine Goes.mk ?_; first | (exact goes_app _ _ rfl rfl (OL.below hT) rfl (by assumption) (by omega) hsz) | (go_simp; first | exact goes_v | exact goes_b (by assumption) | fail | (refine goes_enter ?_; first | (go_at_call 35; ((with_reducible refine (two_any z z0 z1 wo).mono ?_); rintro e w9 ⟨A9, c9, rfl, ho9, hB9⟩); exact ret_b ho9.bs hB9) | (go_at_call 35; ((with_reducible refine (two_any call ca0 ca1 wo).mono ?_); rintro e w9 ⟨A9, c9, rfl, ho9, hB9⟩); exact ret_b ho9.bs hB9))))))); refine ObsK.nil ?_; intro wz hBz; simp only [finOn, List.drop_succ_cons, List.drop_zero, List.drop_nil]
  rintro A9 c9 k9 v7 ⟨A7, n7, c7, rfl, O7⟩ A8 c8 k8
  go_simp
  have u7 : n7 = 6 := by rw [← O7.len]; rfl
  subst u7
  have V7 := below_then V6 hBz
  have F7 := F1.below (below_then T5 V7)
  have mc7 := F7.cell
  clear k8
  go_wp2_with (first
    | (at_builtin; refine wpList_append_bs (w0 := w5) _ rfl _ _ _ rfl w5.heap.size 5 Try.underlying24 info_u8 A7 6 c7 _ rfl O7 A9 2 c9 (two call) rfl k9 V7 (by omega) (by first | exact Nat.le_refl _ | exact Below.size V7 | omega | (simp <;> omega)) ?_; intro A10 n10 c10 w10 ho10 hB10 _ hz10; have u10 : n10 = 8 := (by rw [← ho10.len]; rfl); subst u10; rw [H0.out] at ho10; (obtain ⟨g10, rfl, ge10, gt10⟩ := ho10.ptr (by omega)); have a10 := ho10.at_ (i := 0) (by omega); have a11 := ho10.at_ (i := 1) (by omega); have gk10 : k + 1 + 1 < g10 := (by omega); have F10 := F1.below (below_then T5 hB10); have mc10 := F10.cell; have pc10 := (P1.below (below_then T5 hB10)).cell; have zc10 := (Z1.below (below_then T5 hB10)).cell))
  have Tc := below_then T5 hB10
  have Pc := P1.below Tc
  have Fc := F1.below Tc
  have Zc := Z1.below Tc
  have pcc := Pc.cell
  have fcc := Fc.cell
  have zcc := Zc.cell
  have yc := y1.below Tc
  have xc := x1.below Tc
  have gtc := ho10.at_ (i := 0) (by omega)
  have hw1' := hok
  clear hok
  refine regionX 8 [4] g10 (fun c W => match c with | 0 => Own W w5.heap.size 5 (some ⟨g10, 0, none⟩) 8 c10 (grB false false ++ two z ++ two call) | _ + 1 => True) (by kernel_rfl) (by kernel_rfl) (by kernel_rfl) ho10 (fun c W W' hj hb => by cases c with | zero => exact Own.below hj hb | succ n => trivial) ?_; (iterate 8 (first | (apply ObsX.skip (by rfl) (by rfl)) | (apply ObsX.v (by rfl) (by rfl); (intro wo hE; (repeat (first | (intro v hv; ((first | (obtain ⟨Ap, np, cp, rfl, op⟩ := hv; have obp := op.bs) | (obtain ⟨D1, g1, h1', D2, g2, h2', rfl, o13, o14⟩ := hv)))) | (intro _ _ k; try have hcv := cv k))); (have pco := (Pc.ext hE (by omega)).cell; have mco := (Fc.ext hE (by omega)).cell; have xo := x1.below (below_ext Tc hE (by omega) Tc.size); have yo := y1.below (below_ext Tc hE (by omega) Tc.size); have hsz := hE.size); refine Goes.mk ?_; first | (exact goes_appX _ _ rfl rfl hj (fun k e => by simp [Value.ownBlock] at e; exact e.symm) rfl yo (by omega) (by omega) (fun _ => trivial)) | (go_simp; first | exact goes_v | exact goes_pk (by assumption) (by assumption) | (refine goes_enter ?_; first | (go_at_call 37; ((with_reducible refine (hw1' wo Ap np cp xo obp).mono ?_); rintro e w12 ⟨⟨D1, g1, h1', D2, g2, h2', rfl, O13, O14, hB12⟩⟩); exact ret_tup (O13.mono hsz) (O14.mono hsz) hB12))))) | (apply ObsX.p (q := isTup w10.heap.size Q E) (by rfl) (by rfl) st_isTup (sx_isTup (by omega)); (intro wo hE; (repeat (first | (intro v hv; ((first | (obtain ⟨Ap, np, cp, rfl, op⟩ := hv; have obp := op.bs) | (obtain ⟨D1, g1, h1', D2, g2, h2', rfl, o13, o14⟩ := hv)))) | (intro _ _ k; try have hcv := cv k))); (have pco := (Pc.ext hE (by omega)).cell; have mco := (Fc.ext hE (by omega)).cell; have xo := x1.below (below_ext Tc hE (by omega) Tc.size); have yo := y1.below (below_ext Tc hE (by omega) Tc.size); have hsz := hE.size); refine Goes.mk ?_; first | (exact goes_appX _ _ rfl rfl hj (fun k e => by simp [Value.ownBlock] at e; exact e.symm) rfl yo (by omega) (by omega) (fun _ => trivial)) | (go_simp; first | exact goes_v | exact goes_pk (by assumption) (by assumption) | (refine goes_enter ?_; first | (go_at_call 37; ((with_reducible refine (hw1' wo Ap np cp xo obp).mono ?_); rintro e w12 ⟨⟨D1, g1, h1', D2, g2, h2', rfl, O13, O14, hB12⟩⟩); exact ret_tup (O13.mono hsz) (O14.mono hsz) hB12))))) | (apply ObsX.p (q := isPk w10.heap.size Q) (by rfl) (by rfl) st_isPk (sx_isPk (by omega)); (intro wo hE; (repeat (first | (intro v hv; ((first | (obtain ⟨Ap, np, cp, rfl, op⟩ := hv; have obp := op.bs) | (obtain ⟨D1, g1, h1', D2, g2, h2', rfl, o13, o14⟩ := hv)))) | (intro _ _ k; try have hcv := cv k))); (have pco := (Pc.ext hE (by omega)).cell; have mco := (Fc.ext hE (by omega)).cell; have xo := x1.below (below_ext Tc hE (by omega) Tc.size); have yo := y1.below (below_ext Tc hE (by omega) Tc.size); have hsz := hE.size); refine Goes.mk ?_; first | (exact goes_appX _ _ rfl rfl hj (fun k e => by simp [Value.ownBlock] at e; exact e.symm) rfl yo (by omega) (by omega) (fun _ => trivial)) | (go_simp; first | exact goes_v | exact goes_pk (by assumption) (by assumption) | (refine goes_enter ?_; first | (go_at_call 37; ((with_reducible refine (hw1' wo Ap np cp xo obp).mono ?_); rintro e w12 ⟨⟨D1, g1, h1', D2, g2, h2', rfl, O13, O14, hB12⟩⟩); exact ret_tup (O13.mono hsz) (O14.mono hsz) hB12))))) | (apply ObsX.ev (by rfl) (by rfl); (intro wo hE hj; (repeat (first | (intro v hv; ((first | (obtain ⟨Ap, np, cp, rfl, op⟩ := hv; have obp := op.bs) | (obtain ⟨D1, g1, h1', D2, g2, h2', rfl, o13, o14⟩ := hv)))) | (intro _ _ k; try have hcv := cv k))); (have pco := (Pc.ext hE (by omega)).cell; have mco := (Fc.ext hE (by omega)).cell; have xo := x1.below (below_ext Tc hE (by omega) Tc.size); have yo := y1.below (below_ext Tc hE (by omega) Tc.size); have hsz := hE.size); refine GoesX.mk ?_; first | (exact goes_appX _ _ rfl rfl hj (fun k e => by simp [Value.ownBlock] at e; exact e.symm) rfl yo (by omega) (by omega) (fun _ => trivial)) | (go_simp; first | exact goes_v | exact goes_pk (by assumption) (by assumption) | (refine goes_enter ?_; first | (go_at_call 37; ((with_reducible refine (hw1' wo Ap np cp xo obp).mono ?_); rintro e w12 ⟨⟨D1, g1, h1', D2, g2, h2', rfl, O13, O14, hB12⟩⟩); exact ret_tup (O13.mono hsz) (O14.mono hsz) hB12))))) | (apply ObsX.ep (q := isTup w10.heap.size Q E) (by rfl) (by rfl) (by rfl) st_isTup; (intro wo hE hj; (repeat (first | (intro v hv; ((first | (obtain ⟨Ap, np, cp, rfl, op⟩ := hv; have obp := op.bs) | (obtain ⟨D1, g1, h1', D2, g2, h2', rfl, o13, o14⟩ := hv)))) | (intro _ _ k; try have hcv := cv k))); (have pco := (Pc.ext hE (by omega)).cell; have mco := (Fc.ext hE (by omega)).cell; have xo := x1.below (below_ext Tc hE (by omega) Tc.size); have yo := y1.below (below_ext Tc hE (by omega) Tc.size); have hsz := hE.size); refine GoesX.mk ?_; first | (exact goes_appX _ _ rfl rfl hj (fun k e => by simp [Value.ownBlock] at e; exact e.symm) rfl yo (by omega) (by omega) (fun _ => trivial)) | (go_simp; first | exact goes_v | exact goes_pk (by assumption) (by assumption) | (refine goes_enter ?_; first | (go_at_call 37; ((with_reducible refine (hw1' wo Ap np cp xo obp).mono ?_); rintro e w12 ⟨⟨D1, g1, h1', D2, g2, h2', rfl, O13, O14, hB12⟩⟩); exact ret_tup (O13.mono hsz) (O14.mono hsz) hB12))))) | (apply ObsX.ep (q := isPk w10.heap.size Q) (by rfl) (by rfl) (by rfl) st_isPk; (intro wo hE hj; (repeat (first | (intro v hv; ((first | (obtain ⟨Ap, np, cp, rfl, op⟩ := hv; have obp := op.bs) | (obtain ⟨D1, g1, h1', D2, g2, h2', rfl, o13, o14⟩ := hv)))) | (intro _ _ k; try have hcv := cv k))); (have pco := (Pc.ext hE (by omega)).cell; have mco := (Fc.ext hE (by omega)).cell; have xo := x1.below (below_ext Tc hE (by omega) Tc.size); have yo := y1.below (below_ext Tc hE (by omega) Tc.size); have hsz := hE.size); refine GoesX.mk ?_; first | (exact goes_appX _ _ rfl rfl hj (fun k e => by simp [Value.ownBlock] at e; exact e.symm) rfl yo (by omega) (by omega) (fun _ => trivial)) | (go_simp; first | exact goes_v | exact goes_pk (by assumption) (by assumption) | (refine goes_enter ?_; first | (go_at_call 37; ((with_reducible refine (hw1' wo Ap np cp xo obp).mono ?_); rintro e w12 ⟨⟨D1, g1, h1', D2, g2, h2', rfl, O13, O14, hB12⟩⟩); exact ret_tup (O13.mono hsz) (O14.mono hsz) hB12))))) | (apply ObsX.ep (q := isW w5.heap.size _) (by rfl) (by rfl) (by rfl) st_isW; (intro wo hE hj; (repeat (first | (intro v hv; ((first | (obtain ⟨Ap, np, cp, rfl, op⟩ := hv; have obp := op.bs) | (obtain ⟨D1, g1, h1', D2, g2, h2', rfl, o13, o14⟩ := hv)))) | (intro _ _ k; try have hcv := cv k))); (have pco := (Pc.ext hE (by omega)).cell; have mco := (Fc.ext hE (by omega)).cell; have xo := x1.below (below_ext Tc hE (by omega) Tc.size); have yo := y1.below (below_ext Tc hE (by omega) Tc.size); have hsz := hE.size); refine GoesX.mk ?_; first | (exact goes_appX _ _ rfl rfl hj (fun k e => by simp [Value.ownBlock] at e; exact e.symm) rfl yo (by omega) (by omega) (fun _ => trivial)) | (go_simp; first | exact goes_v | exact goes_pk (by assumption) (by assumption) | (refine goes_enter ?_; first | (go_at_call 37; ((with_reducible refine (hw1' wo Ap np cp xo obp).mono ?_); rintro e w12 ⟨⟨D1, g1, h1', D2, g2, h2', rfl, O13, O14, hB12⟩⟩); exact ret_tup (O13.mono hsz) (O14.mono hsz) hB12))))))); refine ObsX.nil ?_; intro wz hEz hJz; simp only [finOn, List.drop_succ_cons, List.drop_zero, List.drop_nil]
  rintro v12 ⟨D1, g1, h1', D2, g2, h2', rfl, O13, O14⟩ v13 hv13 v14 hv14
  clear hv13 hv14
  go_simp
  have Zz := Zc.ext hEz (by omega)
  have zcz := Zz.cell
  have Tz := below_ext Tc hEz (by omega) Tc.size
  have r1s := R1.size
  go_wp2_with fail
  obtain ⟨wf, hwf, Sf⟩ := store9 Zz (.int .u8 Q.tos) (.int .u16 Q.id) (.bool Q.keep) (.int .u8 Q.ttl) (.int .u8 Q.proto) (.int .u32 Q.src) (.int .u32 Q.dst) (.slice D1 g1 h1') (.slice D2 g2 h2')
  rw [hwf]
  have pf := Sf.blk.cell
  have Of := Sf.own O13 (fun a e => by have := O13.ge a e; omega)
  have Df := Sf.own O14 (fun a e => by have := O14.ge a e; omega)
  have tcs := Tc.size
  refine bodyPost_ret (v := .tuple #[(.agg #[.int .u8 (Q).tos, .int .u16 (Q).id, .bool (Q).keep, .int .u8 (Q).ttl, .int .u8 (Q).proto, .int .u32 (Q).src, .int .u32 (Q).dst, .slice D1 g1 h1', .slice D2 g2 h2']), .int .i64 E]) (by simp [results, Try.results22, go_sem, pf]) rfl ⟨⟨D1, g1, h1', D2, g2, h2', rfl, Of.mono (by omega), Df.mono (by omega), Sf.bel (below_then R1 Tz) (by omega)⟩⟩
theorem rbg_long00 (p : Pkt) (A1 : Option Addr) (n1 c1 : Nat) (A2 : Option Addr) (n2 c2 : Nat) (call : Int) (seq ack : Int) (hsq : (seq != 0) = false) (hac : (ack != 0) = false) (dat : List UInt8) (B1 : Option Addr) (m1 d1 : Nat) (w : World) (k1 : Bs w A1 n1 c1 p.opt) (j1 : Bs w B1 m1 d1 dat)
    (hca : 0 ≤ call ∧ call ≤ 65535) (hse : 0 ≤ seq ∧ seq ≤ 4294967295) (hak : 0 ≤ ack ∧ ack ≤ 4294967295) (h1 : (n1 : Int) ≤ 40) (h2 : n1 % 4 = 0) (Q : Pkt) (E : Int) (h3 : 65535 < 20 + (n1 : Int) + 8 + m1) (hQ : Q = zP) (hE8 : E = 8) :
    Calls Try.prog 22 #[(.agg #[.int .u8 (p).tos, .int .u16 (p).id, .bool (p).keep, .int .u8 (p).ttl, .int .u8 (p).proto, .int .u32 (p).src, .int .u32 (p).dst, .slice A1 n1 c1, .slice A2 n2 c2]), .agg #[.int .u16 call, .bool false, .bool false, .int .u32 seq, .int .u32 ack, .slice B1 m1 d1]] w (WiPost w Q E) := by
  have hw0 : ∀ W, Bs W A1 n1 c1 p.opt → Calls Try.prog 37 #[(.agg #[.int .u8 (p).tos, .int .u16 (p).id, .bool (p).keep, .int .u8 (p).ttl, .int .u8 (p).proto, .int .u32 (p).src, .int .u32 (p).dst, .slice A1 n1 c1, .slice A2 n2 c2]), .int .u8 47, .slice none 0 0] W (fun e w' => ∃ C1 e1 f1 C2 e2 f2, e = .returned (.tuple #[.agg #[.int .u8 p.tos, .int .u16 p.id, .bool p.keep, .int .u8 p.ttl, .int .u8 47, .int .u32 p.src, .int .u32 p.dst, .slice C1 e1 f1, .slice C2 e2 f2], .int .i64 0]) ∧ Own w' W.heap.size 5 C1 e1 f1 p.opt ∧ Own w' W.heap.size 5 C2 e2 f2 [] ∧ Below W.heap.size W w') := fun W kk => by
    have hh := rwith_any p A1 n1 c1 A2 n2 c2 47 none 0 0 [] W kk (Bs.none_ W)
    unfold withP at hh
    rw [show ([] : List UInt8).length = 0 from rfl, wiE_0 k1.len h1 h2 (by omega), if_pos rfl] at hh
    exact hh.mono fun e w' hq => hq.out
  have b1 := j1.max
  obtain ⟨ca0, ca1⟩ := hca
  obtain ⟨se0, se1⟩ := hse
  obtain ⟨ak0, ak1⟩ := hak
  obtain ⟨z, hz⟩ : ∃ z : Int, (m1 : Int) % 65536 = z := ⟨_, rfl⟩
  have z0 : 0 ≤ z := by omega
  have z1 : z ≤ 65535 := by omega
  have hzw : IntKind.u16.wrap (m1 : Int) = z := by rw [← hz]; simp [IntKind.wrap, IntKind.signed, IntKind.bits]
  subst hQ hE8
  have L4 := fun W => lit4 (e := 5) (x := 32) (y := 1) (z := 136) (u := 11) (by omega) (by omega) (by omega) (by omega) (by omega) (by omega) (by omega) (by omega) W
  have H0 : Hid ([ub 32, ub 1, ub 136, ub 11] ++ two z ++ two call = grB false false ++ two z ++ two call) := rfl
  obtain ⟨k, hk⟩ : ∃ k : Nat, w.heap.size = k := ⟨_, rfl⟩
  obtain ⟨w1, hw1⟩ : ∃ w1, ((w.alloc (.cells #[.int .u8 (p).tos, .int .u16 (p).id, .bool (p).keep, .int .u8 (p).ttl, .int .u8 (p).proto, .int .u32 (p).src, .int .u32 (p).dst, .slice A1 n1 c1, .slice A2 n2 c2] 26)).alloc (.cells #[.int .u16 call, .bool false, .bool false, .int .u32 seq, .int .u32 ack, .slice B1 m1 d1] 52)).alloc (.cells #[.int .u8 0, .int .u16 0, .bool false, .int .u8 0, .int .u8 0, .int .u32 0, .int .u32 0, .slice none 0 0, .slice none 0 0] 26) = w1 := ⟨_, rfl⟩
  have P1 : Blk w1 k #[.int .u8 (p).tos, .int .u16 (p).id, .bool (p).keep, .int .u8 (p).ttl, .int .u8 (p).proto, .int .u32 (p).src, .int .u32 (p).dst, .slice A1 n1 c1, .slice A2 n2 c2] 26 := by rw [← hw1]; exact ((blk_new w _ _ k hk).alloc _).alloc _
  have F1 : Blk w1 (k + 1) #[.int .u16 call, .bool false, .bool false, .int .u32 seq, .int .u32 ack, .slice B1 m1 d1] 52 := by rw [← hw1]; exact (blk_new _ _ _ (k + 1) (by simp [hk])).alloc _
  have Z1 : Blk w1 (k + 1 + 1) #[.int .u8 0, .int .u16 0, .bool false, .int .u8 0, .int .u8 0, .int .u32 0, .int .u32 0, .slice none 0 0, .slice none 0 0] 26 := by rw [← hw1]; exact blk_new _ _ _ (k + 1 + 1) (by simp [hk])
  have R1 : Below w.heap.size w w1 := by rw [← hw1]; (repeat (first | with_reducible exact Below.refl _ _ | with_reducible refine below_drew ?_ | with_reducible refine below_drewN ?_ _ | with_reducible refine below_alloc ?_ (Nat.le_refl _) _ | with_reducible refine Below.setCell ?_ (by first | exact Nat.le_refl _ | (simp only []; omega)) _ | with_reducible assumption))
  have x1 := k1.below R1
  have y1 := j1.below R1
  have pc := P1.cell
  have mc := F1.cell
  have zc := Z1.cell
  have zl1 := Z1.lt
  go_enter Try.func22, Try.ntmps22
  go_wp2_with (go_at_call 37; ((with_reducible refine (hw0 w1 x1).mono ?_); rintro e w4 ⟨C1, e1, f1, C2, e2, f2, rfl, O1, O2, hB4⟩); (obtain ⟨w5, hw5⟩ : ∃ w5, w4.alloc (.cells #[.int .u8 p.tos, .int .u16 p.id, .bool p.keep, .int .u8 p.ttl, .int .u8 47, .int .u32 p.src, .int .u32 p.dst, .slice C1 e1 f1, .slice C2 e2 f2] 26) = w5 := ⟨_, rfl⟩); have V5 : Below w4.heap.size w4 w5 := (by rw [← hw5]; (repeat (first | with_reducible exact Below.refl _ _ | with_reducible refine below_drew ?_ | with_reducible refine below_drewN ?_ _ | with_reducible refine below_alloc ?_ (Nat.le_refl _) _ | with_reducible refine Below.setCell ?_ (by first | exact Nat.le_refl _ | (simp only []; omega)) _ | with_reducible assumption))); have T5 := below_then hB4 V5; have P5 := P1.below T5; have F5 := F1.below T5; have Z5 := Z1.below T5; have zc5 := Z5.cell)
  obtain ⟨w6, hw6⟩ : ∃ w6, w5.alloc (.cells #[.int .u8 32, .int .u8 1, .int .u8 136, .int .u8 11] 5) = w6 := ⟨_, rfl⟩
  have OL := L4 w5
  have V6 : Below w5.heap.size w5 w6 := by rw [← hw6]; (repeat (first | with_reducible exact Below.refl _ _ | with_reducible refine below_drew ?_ | with_reducible refine below_drewN ?_ _ | with_reducible refine below_alloc ?_ (Nat.le_refl _) _ | with_reducible refine Below.setCell ?_ (by first | exact Nat.le_refl _ | (simp only []; omega)) _ | with_reducible assumption))
  rw [hw6] at OL ⊢
  have T6 := below_then T5 V6
  have F6 := F1.below T6
  have v6s := V6.size
  have v5s := T5.size
  have zl5 := Z5.lt
  clear hw6 hw5 zc5 pc mc zc hw1
  refine region_txt 10 (by kernel_rfl) (by kernel_rfl) ?_; (iterate 10 (first | (apply ObsK.skip (by rfl)) | (apply ObsK.v (by rfl); (intro wo hT; (repeat (first | (intro v hv; (fail)) | (intro _ _ k; try have hcv := cv k))); (have mc := (F6.below hT).cell; have hsz : w5.heap.size ≤ wo.heap.size := Nat.le_trans v6s hT.size); refine Goes.mk ?_; first | (exact goes_app _ _ rfl rfl (OL.below hT) rfl (by assumption) (by omega) hsz) | (go_simp; first | exact goes_v | exact goes_b (by assumption) | fail | (refine goes_enter ?_; first | (go_at_call 35; ((with_reducible refine (two_any z z0 z1 wo).mono ?_); rintro e w9 ⟨A9, c9, rfl, ho9, hB9⟩); exact ret_b ho9.bs hB9) | (go_at_call 35; ((with_reducible refine (two_any call ca0 ca1 wo).mono ?_); rintro e w9 ⟨A9, c9, rfl, ho9, hB9⟩); exact ret_b ho9.bs hB9))))) | (apply ObsK.b (by rfl); (intro wo hT; (repeat (first | (intro v hv; (fail)) | (intro _ _ k; try have hcv := cv k))); (have mc := (F6.below hT).cell; have hsz : w5.heap.size ≤ wo.heap.size := Nat.le_trans v6s hT.size); refine Goes.mk ?_; first | (exact goes_app _ _ rfl rfl (OL.below hT) rfl (by assumption) (by omega) hsz) | (go_simp; first | exact goes_v | exact goes_b (by assumption) | fail | (refine goes_enter ?_; first | (go_at_call 35; ((with_reducible refine (two_any z z0 z1 wo).mono ?_); rintro e w9 ⟨A9, c9, rfl, ho9, hB9⟩); exact ret_b ho9.bs hB9) | (go_at_call 35; ((with_reducible refine (two_any call ca0 ca1 wo).mono ?_); rintro e w9 ⟨A9, c9, rfl, ho9, hB9⟩); exact ret_b ho9.bs hB9))))) | (apply ObsK.p (q := isW w5.heap.size _) (by rfl) st_isW; (intro wo hT; (repeat (first | (intro v hv; (fail)) | (intro _ _ k; try have hcv := cv k))); (have mc := (F6.below hT).cell; have hsz : w5.heap.size ≤ wo.heap.size := Nat.le_trans v6s hT.size); refine Goes.mk ?_; first | (exact goes_app _ _ rfl rfl (OL.below hT) rfl (by assumption) (by omega) hsz) | (go_simp; first | exact goes_v | exact goes_b (by assumption) | fail | (refine goes_enter ?_; first | (go_at_call 35; ((with_reducible refine (two_any z z0 z1 wo).mono ?_); rintro e w9 ⟨A9, c9, rfl, ho9, hB9⟩); exact ret_b ho9.bs hB9) | (go_at_call 35; ((with_reducible refine (two_any call ca0 ca1 wo).mono ?_); rintro e w9 ⟨A9, c9, rfl, ho9, hB9⟩); exact ret_b ho9.bs hB9))))))); refine ObsK.nil ?_; intro wz hBz; simp only [finOn, List.drop_succ_cons, List.drop_zero, List.drop_nil]
  rintro A9 c9 k9 v7 ⟨A7, n7, c7, rfl, O7⟩ A8 c8 k8
  go_simp
  have u7 : n7 = 6 := by rw [← O7.len]; rfl
  subst u7
  have V7 := below_then V6 hBz
  have F7 := F1.below (below_then T5 V7)
  have mc7 := F7.cell
  clear k8
  go_wp2_with (first
    | (at_builtin; refine wpList_append_bs (w0 := w5) _ rfl _ _ _ rfl w5.heap.size 5 Try.underlying24 info_u8 A7 6 c7 _ rfl O7 A9 2 c9 (two call) rfl k9 V7 (by omega) (by first | exact Nat.le_refl _ | exact Below.size V7 | omega | (simp <;> omega)) ?_; intro A10 n10 c10 w10 ho10 hB10 _ hz10; have u10 : n10 = 8 := (by rw [← ho10.len]; rfl); subst u10; rw [H0.out] at ho10; (obtain ⟨g10, rfl, ge10, gt10⟩ := ho10.ptr (by omega)); have a10 := ho10.at_ (i := 0) (by omega); have a11 := ho10.at_ (i := 1) (by omega); have gk10 : k + 1 + 1 < g10 := (by omega); have F10 := F1.below (below_then T5 hB10); have mc10 := F10.cell; have pc10 := (P1.below (below_then T5 hB10)).cell; have zc10 := (Z1.below (below_then T5 hB10)).cell))
  have Tc := below_then T5 hB10
  have Pc := P1.below Tc
  have Fc := F1.below Tc
  have Zc := Z1.below Tc
  have pcc := Pc.cell
  have fcc := Fc.cell
  have zcc := Zc.cell
  have yc := y1.below Tc
  have xc := x1.below Tc
  have gtc := ho10.at_ (i := 0) (by omega)
  obtain ⟨wf, hwf, Sf⟩ := store9 Zc (.int .u8 0) (.int .u16 0) (.bool false) (.int .u8 0) (.int .u8 0) (.int .u32 0) (.int .u32 0) (.slice none 0 0) (.slice none 0 0)
  rw [hwf]
  have pf := Sf.blk.cell
  exact bodyPost_ret (by simp [results, Try.results22, go_sem, pf]) rfl (wiPost_no (Sf.bel (below_then R1 Tc) (by omega)))
theorem rbg_401 (p : Pkt) (A1 : Option Addr) (n1 c1 : Nat) (A2 : Option Addr) (n2 c2 : Nat) (call : Int) (seq ack : Int) (hsq : (seq != 0) = false) (dat : List UInt8) (B1 : Option Addr) (m1 d1 : Nat) (w : World) (k1 : Bs w A1 n1 c1 p.opt) (j1 : Bs w B1 m1 d1 dat)
    (h : 40 < (n1 : Int) ∨ n1 % 4 ≠ 0) :
    Calls Try.prog 22 #[(.agg #[.int .u8 (p).tos, .int .u16 (p).id, .bool (p).keep, .int .u8 (p).ttl, .int .u8 (p).proto, .int .u32 (p).src, .int .u32 (p).dst, .slice A1 n1 c1, .slice A2 n2 c2]), .agg #[.int .u16 call, .bool false, .bool true, .int .u32 seq, .int .u32 ack, .slice B1 m1 d1]] w (WiPost w zP 4) := by
  have hw0 : ∀ W, Bs W A1 n1 c1 p.opt → Calls Try.prog 37 #[(.agg #[.int .u8 (p).tos, .int .u16 (p).id, .bool (p).keep, .int .u8 (p).ttl, .int .u8 (p).proto, .int .u32 (p).src, .int .u32 (p).dst, .slice A1 n1 c1, .slice A2 n2 c2]), .int .u8 47, .slice none 0 0] W (fun e w' => ∃ C1 e1 f1 C2 e2 f2, e = .returned (.tuple #[.agg #[.int .u8 0, .int .u16 0, .bool false, .int .u8 0, .int .u8 0, .int .u32 0, .int .u32 0, .slice C1 e1 f1, .slice C2 e2 f2], .int .i64 4]) ∧ Own w' W.heap.size 5 C1 e1 f1 [] ∧ Own w' W.heap.size 5 C2 e2 f2 [] ∧ Below W.heap.size W w') := fun W kk => by
    have hh := rwith_any p A1 n1 c1 A2 n2 c2 47 none 0 0 [] W kk (Bs.none_ W)
    unfold withP at hh
    rw [wiE_4 k1.len h, if_neg (by decide)] at hh
    exact hh.mono fun e w' hq => hq.out
  have b1 := j1.max
  obtain ⟨k, hk⟩ : ∃ k : Nat, w.heap.size = k := ⟨_, rfl⟩
  obtain ⟨w1, hw1⟩ : ∃ w1, ((w.alloc (.cells #[.int .u8 (p).tos, .int .u16 (p).id, .bool (p).keep, .int .u8 (p).ttl, .int .u8 (p).proto, .int .u32 (p).src, .int .u32 (p).dst, .slice A1 n1 c1, .slice A2 n2 c2] 26)).alloc (.cells #[.int .u16 call, .bool false, .bool true, .int .u32 seq, .int .u32 ack, .slice B1 m1 d1] 52)).alloc (.cells #[.int .u8 0, .int .u16 0, .bool false, .int .u8 0, .int .u8 0, .int .u32 0, .int .u32 0, .slice none 0 0, .slice none 0 0] 26) = w1 := ⟨_, rfl⟩
  have P1 : Blk w1 k #[.int .u8 (p).tos, .int .u16 (p).id, .bool (p).keep, .int .u8 (p).ttl, .int .u8 (p).proto, .int .u32 (p).src, .int .u32 (p).dst, .slice A1 n1 c1, .slice A2 n2 c2] 26 := by rw [← hw1]; exact ((blk_new w _ _ k hk).alloc _).alloc _
  have F1 : Blk w1 (k + 1) #[.int .u16 call, .bool false, .bool true, .int .u32 seq, .int .u32 ack, .slice B1 m1 d1] 52 := by rw [← hw1]; exact (blk_new _ _ _ (k + 1) (by simp [hk])).alloc _
  have Z1 : Blk w1 (k + 1 + 1) #[.int .u8 0, .int .u16 0, .bool false, .int .u8 0, .int .u8 0, .int .u32 0, .int .u32 0, .slice none 0 0, .slice none 0 0] 26 := by rw [← hw1]; exact blk_new _ _ _ (k + 1 + 1) (by simp [hk])
  have R1 : Below w.heap.size w w1 := by rw [← hw1]; (repeat (first | with_reducible exact Below.refl _ _ | with_reducible refine below_drew ?_ | with_reducible refine below_drewN ?_ _ | with_reducible refine below_alloc ?_ (Nat.le_refl _) _ | with_reducible refine Below.setCell ?_ (by first | exact Nat.le_refl _ | (simp only []; omega)) _ | with_reducible assumption))
  have x1 := k1.below R1
  have y1 := j1.below R1
  have pc := P1.cell
  have mc := F1.cell
  have zc := Z1.cell
  have zl1 := Z1.lt
  go_enter Try.func22, Try.ntmps22
  go_wp2_with (go_at_call 37; ((with_reducible refine (hw0 w1 x1).mono ?_); rintro e w4 ⟨C1, e1, f1, C2, e2, f2, rfl, O1, O2, hB4⟩); (obtain ⟨w5, hw5⟩ : ∃ w5, w4.alloc (.cells #[.int .u8 0, .int .u16 0, .bool false, .int .u8 0, .int .u8 0, .int .u32 0, .int .u32 0, .slice C1 e1 f1, .slice C2 e2 f2] 26) = w5 := ⟨_, rfl⟩); have V5 : Below w4.heap.size w4 w5 := (by rw [← hw5]; (repeat (first | with_reducible exact Below.refl _ _ | with_reducible refine below_drew ?_ | with_reducible refine below_drewN ?_ _ | with_reducible refine below_alloc ?_ (Nat.le_refl _) _ | with_reducible refine Below.setCell ?_ (by first | exact Nat.le_refl _ | (simp only []; omega)) _ | with_reducible assumption))); have T5 := below_then hB4 V5; have P5 := P1.below T5; have F5 := F1.below T5; have Z5 := Z1.below T5; have zc5 := Z5.cell)
  obtain ⟨wf, hwf, Sf⟩ := store9 Z5 (.int .u8 0) (.int .u16 0) (.bool false) (.int .u8 0) (.int .u8 0) (.int .u32 0) (.int .u32 0) (.slice none 0 0) (.slice none 0 0)
  rw [hwf]
  have pf := Sf.blk.cell
  exact bodyPost_ret (by simp [results, Try.results22, go_sem, pf]) rfl (wiPost_no (Sf.bel (below_then R1 T5) (by omega)))
theorem rbg_ok01 (p : Pkt) (A1 : Option Addr) (n1 c1 : Nat) (A2 : Option Addr) (n2 c2 : Nat) (call : Int) (seq ack : Int) (hsq : (seq != 0) = false) (dat : List UInt8) (B1 : Option Addr) (m1 d1 : Nat) (w : World) (k1 : Bs w A1 n1 c1 p.opt) (j1 : Bs w B1 m1 d1 dat)
    (hca : 0 ≤ call ∧ call ≤ 65535) (hse : 0 ≤ seq ∧ seq ≤ 4294967295) (hak : 0 ≤ ack ∧ ack ≤ 4294967295) (h1 : (n1 : Int) ≤ 40) (h2 : n1 % 4 = 0) (Q : Pkt) (E : Int) (h3 : 20 + (n1 : Int) + 12 + m1 ≤ 65535) (hok : ∀ W A n c, Bs W A1 n1 c1 p.opt → Bs W A n c (((grB false true ++ two ((m1 : Int) % 65536) ++ two call) ++ four ack) ++ dat) → Calls Try.prog 37 #[(.agg #[.int .u8 (p).tos, .int .u16 (p).id, .bool (p).keep, .int .u8 (p).ttl, .int .u8 (p).proto, .int .u32 (p).src, .int .u32 (p).dst, .slice A1 n1 c1, .slice A2 n2 c2]), .int .u8 47, .slice A n c] W (WiPost W Q E)) :
    Calls Try.prog 22 #[(.agg #[.int .u8 (p).tos, .int .u16 (p).id, .bool (p).keep, .int .u8 (p).ttl, .int .u8 (p).proto, .int .u32 (p).src, .int .u32 (p).dst, .slice A1 n1 c1, .slice A2 n2 c2]), .agg #[.int .u16 call, .bool false, .bool true, .int .u32 seq, .int .u32 ack, .slice B1 m1 d1]] w (WiPost w Q E) := by
  have hw0 : ∀ W, Bs W A1 n1 c1 p.opt → Calls Try.prog 37 #[(.agg #[.int .u8 (p).tos, .int .u16 (p).id, .bool (p).keep, .int .u8 (p).ttl, .int .u8 (p).proto, .int .u32 (p).src, .int .u32 (p).dst, .slice A1 n1 c1, .slice A2 n2 c2]), .int .u8 47, .slice none 0 0] W (fun e w' => ∃ C1 e1 f1 C2 e2 f2, e = .returned (.tuple #[.agg #[.int .u8 p.tos, .int .u16 p.id, .bool p.keep, .int .u8 p.ttl, .int .u8 47, .int .u32 p.src, .int .u32 p.dst, .slice C1 e1 f1, .slice C2 e2 f2], .int .i64 0]) ∧ Own w' W.heap.size 5 C1 e1 f1 p.opt ∧ Own w' W.heap.size 5 C2 e2 f2 [] ∧ Below W.heap.size W w') := fun W kk => by
    have hh := rwith_any p A1 n1 c1 A2 n2 c2 47 none 0 0 [] W kk (Bs.none_ W)
    unfold withP at hh
    rw [show ([] : List UInt8).length = 0 from rfl, wiE_0 k1.len h1 h2 (by omega), if_pos rfl] at hh
    exact hh.mono fun e w' hq => hq.out
  have b1 := j1.max
  obtain ⟨ca0, ca1⟩ := hca
  obtain ⟨se0, se1⟩ := hse
  obtain ⟨ak0, ak1⟩ := hak
  obtain ⟨z, hz⟩ : ∃ z : Int, (m1 : Int) % 65536 = z := ⟨_, rfl⟩
  have z0 : 0 ≤ z := by omega
  have z1 : z ≤ 65535 := by omega
  have hzw : IntKind.u16.wrap (m1 : Int) = z := by rw [← hz]; simp [IntKind.wrap, IntKind.signed, IntKind.bits]
  rw [hz] at hok
  have L4 := fun W => lit4 (e := 5) (x := 32) (y := 1) (z := 136) (u := 11) (by omega) (by omega) (by omega) (by omega) (by omega) (by omega) (by omega) (by omega) W
  have H0 : Hid ([ub 32, ub 1, ub 136, ub 11] ++ two z ++ two call = grB false false ++ two z ++ two call) := rfl
  obtain ⟨k, hk⟩ : ∃ k : Nat, w.heap.size = k := ⟨_, rfl⟩
  obtain ⟨w1, hw1⟩ : ∃ w1, ((w.alloc (.cells #[.int .u8 (p).tos, .int .u16 (p).id, .bool (p).keep, .int .u8 (p).ttl, .int .u8 (p).proto, .int .u32 (p).src, .int .u32 (p).dst, .slice A1 n1 c1, .slice A2 n2 c2] 26)).alloc (.cells #[.int .u16 call, .bool false, .bool true, .int .u32 seq, .int .u32 ack, .slice B1 m1 d1] 52)).alloc (.cells #[.int .u8 0, .int .u16 0, .bool false, .int .u8 0, .int .u8 0, .int .u32 0, .int .u32 0, .slice none 0 0, .slice none 0 0] 26) = w1 := ⟨_, rfl⟩
  have P1 : Blk w1 k #[.int .u8 (p).tos, .int .u16 (p).id, .bool (p).keep, .int .u8 (p).ttl, .int .u8 (p).proto, .int .u32 (p).src, .int .u32 (p).dst, .slice A1 n1 c1, .slice A2 n2 c2] 26 := by rw [← hw1]; exact ((blk_new w _ _ k hk).alloc _).alloc _
  have F1 : Blk w1 (k + 1) #[.int .u16 call, .bool false, .bool true, .int .u32 seq, .int .u32 ack, .slice B1 m1 d1] 52 := by rw [← hw1]; exact (blk_new _ _ _ (k + 1) (by simp [hk])).alloc _
  have Z1 : Blk w1 (k + 1 + 1) #[.int .u8 0, .int .u16 0, .bool false, .int .u8 0, .int .u8 0, .int .u32 0, .int .u32 0, .slice none 0 0, .slice none 0 0] 26 := by rw [← hw1]; exact blk_new _ _ _ (k + 1 + 1) (by simp [hk])
  have R1 : Below w.heap.size w w1 := by rw [← hw1]; (repeat (first | with_reducible exact Below.refl _ _ | with_reducible refine below_drew ?_ | with_reducible refine below_drewN ?_ _ | with_reducible refine below_alloc ?_ (Nat.le_refl _) _ | with_reducible refine Below.setCell ?_ (by first | exact Nat.le_refl _ | (simp only []; omega)) _ | with_reducible assumption))
  have x1 := k1.below R1
  have y1 := j1.below R1
  have pc := P1.cell
  have mc := F1.cell
  have zc := Z1.cell
  have zl1 := Z1.lt
  go_enter Try.func22, Try.ntmps22
  go_wp2_with (go_at_call 37; ((with_reducible refine (hw0 w1 x1).mono ?_); rintro e w4 ⟨C1, e1, f1, C2, e2, f2, rfl, O1, O2, hB4⟩); (obtain ⟨w5, hw5⟩ : ∃ w5, w4.alloc (.cells #[.int .u8 p.tos, .int .u16 p.id, .bool p.keep, .int .u8 p.ttl, .int .u8 47, .int .u32 p.src, .int .u32 p.dst, .slice C1 e1 f1, .slice C2 e2 f2] 26) = w5 := ⟨_, rfl⟩); have V5 : Below w4.heap.size w4 w5 := (by rw [← hw5]; (repeat (first | with_reducible exact Below.refl _ _ | with_reducible refine below_drew ?_ | with_reducible refine below_drewN ?_ _ | with_reducible refine below_alloc ?_ (Nat.le_refl _) _ | with_reducible refine Below.setCell ?_ (by first | exact Nat.le_refl _ | (simp only []; omega)) _ | with_reducible assumption))); have T5 := below_then hB4 V5; have P5 := P1.below T5; have F5 := F1.below T5; have Z5 := Z1.below T5; have zc5 := Z5.cell)
  obtain ⟨w6, hw6⟩ : ∃ w6, w5.alloc (.cells #[.int .u8 32, .int .u8 1, .int .u8 136, .int .u8 11] 5) = w6 := ⟨_, rfl⟩
  have OL := L4 w5
  have V6 : Below w5.heap.size w5 w6 := by rw [← hw6]; (repeat (first | with_reducible exact Below.refl _ _ | with_reducible refine below_drew ?_ | with_reducible refine below_drewN ?_ _ | with_reducible refine below_alloc ?_ (Nat.le_refl _) _ | with_reducible refine Below.setCell ?_ (by first | exact Nat.le_refl _ | (simp only []; omega)) _ | with_reducible assumption))
  rw [hw6] at OL ⊢
  have T6 := below_then T5 V6
  have F6 := F1.below T6
  have v6s := V6.size
  have v5s := T5.size
  have zl5 := Z5.lt
  clear hw6 hw5 zc5 pc mc zc hw1
  refine region_txt 10 (by kernel_rfl) (by kernel_rfl) ?_; (iterate 10 (first | (apply ObsK.skip (by rfl)) | (apply ObsK.v (by rfl); (intro wo hT; (repeat (first | (intro v hv; (fail)) | (intro _ _ k; try have hcv := cv k))); (have mc := (F6.below hT).cell; have hsz : w5.heap.size ≤ wo.heap.size := Nat.le_trans v6s hT.size); refine Goes.mk ?_; first | (exact goes_app _ _ rfl rfl (OL.below hT) rfl (by assumption) (by omega) hsz) | (go_simp; first | exact goes_v | exact goes_b (by assumption) | fail | (refine goes_enter ?_; first | (go_at_call 35; ((with_reducible refine (two_any z z0 z1 wo).mono ?_); rintro e w9 ⟨A9, c9, rfl, ho9, hB9⟩); exact ret_b ho9.bs hB9) | (go_at_call 35; ((with_reducible refine (two_any call ca0 ca1 wo).mono ?_); rintro e w9 ⟨A9, c9, rfl, ho9, hB9⟩); exact ret_b ho9.bs hB9))))) | (apply ObsK.b (by rfl); (intro wo hT; (repeat (first | (intro v hv; (fail)) | (intro _ _ k; try have hcv := cv k))); (have mc := (F6.below hT).cell; have hsz : w5.heap.size ≤ wo.heap.size := Nat.le_trans v6s hT.size); refine Goes.mk ?_; first | (exact goes_app _ _ rfl rfl (OL.below hT) rfl (by assumption) (by omega) hsz) | (go_simp; first | exact goes_v | exact goes_b (by assumption) | fail | (refine goes_enter ?_; first | (go_at_call 35; ((with_reducible refine (two_any z z0 z1 wo).mono ?_); rintro e w9 ⟨A9, c9, rfl, ho9, hB9⟩); exact ret_b ho9.bs hB9) | (go_at_call 35; ((with_reducible refine (two_any call ca0 ca1 wo).mono ?_); rintro e w9 ⟨A9, c9, rfl, ho9, hB9⟩); exact ret_b ho9.bs hB9))))) | (apply ObsK.p (q := isW w5.heap.size _) (by rfl) st_isW; (intro wo hT; (repeat (first | (intro v hv; (fail)) | (intro _ _ k; try have hcv := cv k))); (have mc := (F6.below hT).cell; have hsz : w5.heap.size ≤ wo.heap.size := Nat.le_trans v6s hT.size); refine Goes.mk ?_; first | (exact goes_app _ _ rfl rfl (OL.below hT) rfl (by assumption) (by omega) hsz) | (go_simp; first | exact goes_v | exact goes_b (by assumption) | fail | (refine goes_enter ?_; first | (go_at_call 35; ((with_reducible refine (two_any z z0 z1 wo).mono ?_); rintro e w9 ⟨A9, c9, rfl, ho9, hB9⟩); exact ret_b ho9.bs hB9) | (go_at_call 35; ((with_reducible refine (two_any call ca0 ca1 wo).mono ?_); rintro e w9 ⟨A9, c9, rfl, ho9, hB9⟩); exact ret_b ho9.bs hB9))))))); refine ObsK.nil ?_; intro wz hBz; simp only [finOn, List.drop_succ_cons, List.drop_zero, List.drop_nil]
  rintro A9 c9 k9 v7 ⟨A7, n7, c7, rfl, O7⟩ A8 c8 k8
  go_simp
  have u7 : n7 = 6 := by rw [← O7.len]; rfl
  subst u7
  have V7 := below_then V6 hBz
  have F7 := F1.below (below_then T5 V7)
  have mc7 := F7.cell
  clear k8
  go_wp2_with (first
    | (at_builtin; refine wpList_append_bs (w0 := w5) _ rfl _ _ _ rfl w5.heap.size 5 Try.underlying24 info_u8 A7 6 c7 _ rfl O7 A9 2 c9 (two call) rfl k9 V7 (by omega) (by first | exact Nat.le_refl _ | exact Below.size V7 | omega | (simp <;> omega)) ?_; intro A10 n10 c10 w10 ho10 hB10 _ hz10; have u10 : n10 = 8 := (by rw [← ho10.len]; rfl); subst u10; rw [H0.out] at ho10; (obtain ⟨g10, rfl, ge10, gt10⟩ := ho10.ptr (by omega)); have a10 := ho10.at_ (i := 0) (by omega); have a11 := ho10.at_ (i := 1) (by omega); have gk10 : k + 1 + 1 < g10 := (by omega); have F10 := F1.below (below_then T5 hB10); have mc10 := F10.cell; have pc10 := (P1.below (below_then T5 hB10)).cell; have zc10 := (Z1.below (below_then T5 hB10)).cell))
  have S12 : Own (w10.setCell ⟨g10, 1, none⟩ (.int .u8 129)) w5.heap.size 5 (some ⟨g10, 0, none⟩) 8 c10 (grB false true ++ two z ++ two call) := by
    have := ho10.set_ (i := 1) (by omega) 129 (y := 129) (by omega)
    exact this
  have B12 := hB10.setCell (p := ⟨g10, 1, none⟩) (by omega) (.int .u8 129)
  have M12 := (F1.below (below_then T5 B12)).cell
  have MP12 := (P1.below (below_then T5 B12)).cell
  obtain ⟨w12, hw12⟩ : ∃ w12, w10.setCell ⟨g10, 1, none⟩ (.int .u8 129) = w12 := ⟨_, rfl⟩
  rw [hw12] at S12 B12 M12 MP12 ⊢
  have bs12 := B12.size
  refine (four_any ack ak0 ak1 _).mono ?_
  rintro e w13 ⟨A13, c13, rfl, ho13, hB13⟩
  have S13 := S12.below hB13
  have B13 := below_then B12 hB13
  go_wp2_with (first
    | (at_builtin; refine wpList_append_bs (w0 := w5) _ rfl _ _ _ rfl w5.heap.size 5 Try.underlying24 info_u8 (some ⟨g10, 0, none⟩) 8 c10 _ rfl S13 A13 4 c13 (four ack) rfl ho13.bs B13 (by omega) (by first | exact Nat.le_refl _ | exact Below.size B13 | omega | (simp <;> omega)) ?_; intro A14 n14 c14 w14 ho14 hB14 _ hz14; have u14 : n14 = 12 := (by rw [← ho14.len]; rfl); subst u14; (obtain ⟨g14, rfl, ge14, gt14⟩ := ho14.ptr (by omega)); have a141 := ho14.at_ (i := 1) (by omega); have gk14 : k + 1 + 1 < g14 := (by omega); have F14 := F1.below (below_then T5 hB14); have mc14 := F14.cell; have pc14 := (P1.below (below_then T5 hB14)).cell; have zc14 := (Z1.below (below_then T5 hB14)).cell))
  have Tc := below_then T5 hB14
  have Pc := P1.below Tc
  have Fc := F1.below Tc
  have Zc := Z1.below Tc
  have pcc := Pc.cell
  have fcc := Fc.cell
  have zcc := Zc.cell
  have yc := y1.below Tc
  have xc := x1.below Tc
  have gtc := ho14.at_ (i := 0) (by omega)
  have hw1' := hok
  clear hok
  refine regionX 8 [4] g14 (fun c W => match c with | 0 => Own W w5.heap.size 5 (some ⟨g14, 0, none⟩) 12 c14 ((grB false true ++ two z ++ two call) ++ four ack) | _ + 1 => True) (by kernel_rfl) (by kernel_rfl) (by kernel_rfl) ho14 (fun c W W' hj hb => by cases c with | zero => exact Own.below hj hb | succ n => trivial) ?_; (iterate 8 (first | (apply ObsX.skip (by rfl) (by rfl)) | (apply ObsX.v (by rfl) (by rfl); (intro wo hE; (repeat (first | (intro v hv; ((first | (obtain ⟨Ap, np, cp, rfl, op⟩ := hv; have obp := op.bs) | (obtain ⟨D1, g1, h1', D2, g2, h2', rfl, o13, o14⟩ := hv)))) | (intro _ _ k; try have hcv := cv k))); (have pco := (Pc.ext hE (by omega)).cell; have mco := (Fc.ext hE (by omega)).cell; have xo := x1.below (below_ext Tc hE (by omega) Tc.size); have yo := y1.below (below_ext Tc hE (by omega) Tc.size); have hsz := hE.size); refine Goes.mk ?_; first | (exact goes_appX _ _ rfl rfl hj (fun k e => by simp [Value.ownBlock] at e; exact e.symm) rfl yo (by omega) (by omega) (fun _ => trivial)) | (go_simp; first | exact goes_v | exact goes_pk (by assumption) (by assumption) | (refine goes_enter ?_; first | (go_at_call 37; ((with_reducible refine (hw1' wo Ap np cp xo obp).mono ?_); rintro e w12 ⟨⟨D1, g1, h1', D2, g2, h2', rfl, O13, O14, hB12⟩⟩); exact ret_tup (O13.mono hsz) (O14.mono hsz) hB12))))) | (apply ObsX.p (q := isTup w14.heap.size Q E) (by rfl) (by rfl) st_isTup (sx_isTup (by omega)); (intro wo hE; (repeat (first | (intro v hv; ((first | (obtain ⟨Ap, np, cp, rfl, op⟩ := hv; have obp := op.bs) | (obtain ⟨D1, g1, h1', D2, g2, h2', rfl, o13, o14⟩ := hv)))) | (intro _ _ k; try have hcv := cv k))); (have pco := (Pc.ext hE (by omega)).cell; have mco := (Fc.ext hE (by omega)).cell; have xo := x1.below (below_ext Tc hE (by omega) Tc.size); have yo := y1.below (below_ext Tc hE (by omega) Tc.size); have hsz := hE.size); refine Goes.mk ?_; first | (exact goes_appX _ _ rfl rfl hj (fun k e => by simp [Value.ownBlock] at e; exact e.symm) rfl yo (by omega) (by omega) (fun _ => trivial)) | (go_simp; first | exact goes_v | exact goes_pk (by assumption) (by assumption) | (refine goes_enter ?_; first | (go_at_call 37; ((with_reducible refine (hw1' wo Ap np cp xo obp).mono ?_); rintro e w12 ⟨⟨D1, g1, h1', D2, g2, h2', rfl, O13, O14, hB12⟩⟩); exact ret_tup (O13.mono hsz) (O14.mono hsz) hB12))))) | (apply ObsX.p (q := isPk w14.heap.size Q) (by rfl) (by rfl) st_isPk (sx_isPk (by omega)); (intro wo hE; (repeat (first | (intro v hv; ((first | (obtain ⟨Ap, np, cp, rfl, op⟩ := hv; have obp := op.bs) | (obtain ⟨D1, g1, h1', D2, g2, h2', rfl, o13, o14⟩ := hv)))) | (intro _ _ k; try have hcv := cv k))); (have pco := (Pc.ext hE (by omega)).cell; have mco := (Fc.ext hE (by omega)).cell; have xo := x1.below (below_ext Tc hE (by omega) Tc.size); have yo := y1.below (below_ext Tc hE (by omega) Tc.size); have hsz := hE.size); refine Goes.mk ?_; first | (exact goes_appX _ _ rfl rfl hj (fun k e => by simp [Value.ownBlock] at e; exact e.symm) rfl yo (by omega) (by omega) (fun _ => trivial)) | (go_simp; first | exact goes_v | exact goes_pk (by assumption) (by assumption) | (refine goes_enter ?_; first | (go_at_call 37; ((with_reducible refine (hw1' wo Ap np cp xo obp).mono ?_); rintro e w12 ⟨⟨D1, g1, h1', D2, g2, h2', rfl, O13, O14, hB12⟩⟩); exact ret_tup (O13.mono hsz) (O14.mono hsz) hB12))))) | (apply ObsX.ev (by rfl) (by rfl); (intro wo hE hj; (repeat (first | (intro v hv; ((first | (obtain ⟨Ap, np, cp, rfl, op⟩ := hv; have obp := op.bs) | (obtain ⟨D1, g1, h1', D2, g2, h2', rfl, o13, o14⟩ := hv)))) | (intro _ _ k; try have hcv := cv k))); (have pco := (Pc.ext hE (by omega)).cell; have mco := (Fc.ext hE (by omega)).cell; have xo := x1.below (below_ext Tc hE (by omega) Tc.size); have yo := y1.below (below_ext Tc hE (by omega) Tc.size); have hsz := hE.size); refine GoesX.mk ?_; first | (exact goes_appX _ _ rfl rfl hj (fun k e => by simp [Value.ownBlock] at e; exact e.symm) rfl yo (by omega) (by omega) (fun _ => trivial)) | (go_simp; first | exact goes_v | exact goes_pk (by assumption) (by assumption) | (refine goes_enter ?_; first | (go_at_call 37; ((with_reducible refine (hw1' wo Ap np cp xo obp).mono ?_); rintro e w12 ⟨⟨D1, g1, h1', D2, g2, h2', rfl, O13, O14, hB12⟩⟩); exact ret_tup (O13.mono hsz) (O14.mono hsz) hB12))))) | (apply ObsX.ep (q := isTup w14.heap.size Q E) (by rfl) (by rfl) (by rfl) st_isTup; (intro wo hE hj; (repeat (first | (intro v hv; ((first | (obtain ⟨Ap, np, cp, rfl, op⟩ := hv; have obp := op.bs) | (obtain ⟨D1, g1, h1', D2, g2, h2', rfl, o13, o14⟩ := hv)))) | (intro _ _ k; try have hcv := cv k))); (have pco := (Pc.ext hE (by omega)).cell; have mco := (Fc.ext hE (by omega)).cell; have xo := x1.below (below_ext Tc hE (by omega) Tc.size); have yo := y1.below (below_ext Tc hE (by omega) Tc.size); have hsz := hE.size); refine GoesX.mk ?_; first | (exact goes_appX _ _ rfl rfl hj (fun k e => by simp [Value.ownBlock] at e; exact e.symm) rfl yo (by omega) (by omega) (fun _ => trivial)) | (go_simp; first | exact goes_v | exact goes_pk (by assumption) (by assumption) | (refine goes_enter ?_; first | (go_at_call 37; ((with_reducible refine (hw1' wo Ap np cp xo obp).mono ?_); rintro e w12 ⟨⟨D1, g1, h1', D2, g2, h2', rfl, O13, O14, hB12⟩⟩); exact ret_tup (O13.mono hsz) (O14.mono hsz) hB12))))) | (apply ObsX.ep (q := isPk w14.heap.size Q) (by rfl) (by rfl) (by rfl) st_isPk; (intro wo hE hj; (repeat (first | (intro v hv; ((first | (obtain ⟨Ap, np, cp, rfl, op⟩ := hv; have obp := op.bs) | (obtain ⟨D1, g1, h1', D2, g2, h2', rfl, o13, o14⟩ := hv)))) | (intro _ _ k; try have hcv := cv k))); (have pco := (Pc.ext hE (by omega)).cell; have mco := (Fc.ext hE (by omega)).cell; have xo := x1.below (below_ext Tc hE (by omega) Tc.size); have yo := y1.below (below_ext Tc hE (by omega) Tc.size); have hsz := hE.size); refine GoesX.mk ?_; first | (exact goes_appX _ _ rfl rfl hj (fun k e => by simp [Value.ownBlock] at e; exact e.symm) rfl yo (by omega) (by omega) (fun _ => trivial)) | (go_simp; first | exact goes_v | exact goes_pk (by assumption) (by assumption) | (refine goes_enter ?_; first | (go_at_call 37; ((with_reducible refine (hw1' wo Ap np cp xo obp).mono ?_); rintro e w12 ⟨⟨D1, g1, h1', D2, g2, h2', rfl, O13, O14, hB12⟩⟩); exact ret_tup (O13.mono hsz) (O14.mono hsz) hB12))))) | (apply ObsX.ep (q := isW w5.heap.size _) (by rfl) (by rfl) (by rfl) st_isW; (intro wo hE hj; (repeat (first | (intro v hv; ((first | (obtain ⟨Ap, np, cp, rfl, op⟩ := hv; have obp := op.bs) | (obtain ⟨D1, g1, h1', D2, g2, h2', rfl, o13, o14⟩ := hv)))) | (intro _ _ k; try have hcv := cv k))); (have pco := (Pc.ext hE (by omega)).cell; have mco := (Fc.ext hE (by omega)).cell; have xo := x1.below (below_ext Tc hE (by omega) Tc.size); have yo := y1.below (below_ext Tc hE (by omega) Tc.size); have hsz := hE.size); refine GoesX.mk ?_; first | (exact goes_appX _ _ rfl rfl hj (fun k e => by simp [Value.ownBlock] at e; exact e.symm) rfl yo (by omega) (by omega) (fun _ => trivial)) | (go_simp; first | exact goes_v | exact goes_pk (by assumption) (by assumption) | (refine goes_enter ?_; first | (go_at_call 37; ((with_reducible refine (hw1' wo Ap np cp xo obp).mono ?_); rintro e w12 ⟨⟨D1, g1, h1', D2, g2, h2', rfl, O13, O14, hB12⟩⟩); exact ret_tup (O13.mono hsz) (O14.mono hsz) hB12))))))); refine ObsX.nil ?_; intro wz hEz hJz; simp only [finOn, List.drop_succ_cons, List.drop_zero, List.drop_nil]
  rintro v12 ⟨D1, g1, h1', D2, g2, h2', rfl, O13, O14⟩ v13 hv13 v14 hv14
  clear hv13 hv14
  go_simp
  have Zz := Zc.ext hEz (by omega)
  have zcz := Zz.cell
  have Tz := below_ext Tc hEz (by omega) Tc.size
  have r1s := R1.size
  go_wp2_with fail
  obtain ⟨wf, hwf, Sf⟩ := store9 Zz (.int .u8 Q.tos) (.int .u16 Q.id) (.bool Q.keep) (.int .u8 Q.ttl) (.int .u8 Q.proto) (.int .u32 Q.src) (.int .u32 Q.dst) (.slice D1 g1 h1') (.slice D2 g2 h2')
  rw [hwf]
  have pf := Sf.blk.cell
  have Of := Sf.own O13 (fun a e => by have := O13.ge a e; omega)
  have Df := Sf.own O14 (fun a e => by have := O14.ge a e; omega)
  have tcs := Tc.size
  refine bodyPost_ret (v := .tuple #[(.agg #[.int .u8 (Q).tos, .int .u16 (Q).id, .bool (Q).keep, .int .u8 (Q).ttl, .int .u8 (Q).proto, .int .u32 (Q).src, .int .u32 (Q).dst, .slice D1 g1 h1', .slice D2 g2 h2']), .int .i64 E]) (by simp [results, Try.results22, go_sem, pf]) rfl ⟨⟨D1, g1, h1', D2, g2, h2', rfl, Of.mono (by omega), Df.mono (by omega), Sf.bel (below_then R1 Tz) (by omega)⟩⟩
theorem rbg_long01 (p : Pkt) (A1 : Option Addr) (n1 c1 : Nat) (A2 : Option Addr) (n2 c2 : Nat) (call : Int) (seq ack : Int) (hsq : (seq != 0) = false) (dat : List UInt8) (B1 : Option Addr) (m1 d1 : Nat) (w : World) (k1 : Bs w A1 n1 c1 p.opt) (j1 : Bs w B1 m1 d1 dat)
    (hca : 0 ≤ call ∧ call ≤ 65535) (hse : 0 ≤ seq ∧ seq ≤ 4294967295) (hak : 0 ≤ ack ∧ ack ≤ 4294967295) (h1 : (n1 : Int) ≤ 40) (h2 : n1 % 4 = 0) (Q : Pkt) (E : Int) (h3 : 65535 < 20 + (n1 : Int) + 12 + m1) (hQ : Q = zP) (hE8 : E = 8) :
    Calls Try.prog 22 #[(.agg #[.int .u8 (p).tos, .int .u16 (p).id, .bool (p).keep, .int .u8 (p).ttl, .int .u8 (p).proto, .int .u32 (p).src, .int .u32 (p).dst, .slice A1 n1 c1, .slice A2 n2 c2]), .agg #[.int .u16 call, .bool false, .bool true, .int .u32 seq, .int .u32 ack, .slice B1 m1 d1]] w (WiPost w Q E) := by
  have hw0 : ∀ W, Bs W A1 n1 c1 p.opt → Calls Try.prog 37 #[(.agg #[.int .u8 (p).tos, .int .u16 (p).id, .bool (p).keep, .int .u8 (p).ttl, .int .u8 (p).proto, .int .u32 (p).src, .int .u32 (p).dst, .slice A1 n1 c1, .slice A2 n2 c2]), .int .u8 47, .slice none 0 0] W (fun e w' => ∃ C1 e1 f1 C2 e2 f2, e = .returned (.tuple #[.agg #[.int .u8 p.tos, .int .u16 p.id, .bool p.keep, .int .u8 p.ttl, .int .u8 47, .int .u32 p.src, .int .u32 p.dst, .slice C1 e1 f1, .slice C2 e2 f2], .int .i64 0]) ∧ Own w' W.heap.size 5 C1 e1 f1 p.opt ∧ Own w' W.heap.size 5 C2 e2 f2 [] ∧ Below W.heap.size W w') := fun W kk => by
    have hh := rwith_any p A1 n1 c1 A2 n2 c2 47 none 0 0 [] W kk (Bs.none_ W)
    unfold withP at hh
    rw [show ([] : List UInt8).length = 0 from rfl, wiE_0 k1.len h1 h2 (by omega), if_pos rfl] at hh
    exact hh.mono fun e w' hq => hq.out
  have b1 := j1.max
  obtain ⟨ca0, ca1⟩ := hca
  obtain ⟨se0, se1⟩ := hse
  obtain ⟨ak0, ak1⟩ := hak
  obtain ⟨z, hz⟩ : ∃ z : Int, (m1 : Int) % 65536 = z := ⟨_, rfl⟩
  have z0 : 0 ≤ z := by omega
  have z1 : z ≤ 65535 := by omega
  have hzw : IntKind.u16.wrap (m1 : Int) = z := by rw [← hz]; simp [IntKind.wrap, IntKind.signed, IntKind.bits]
  subst hQ hE8
  have L4 := fun W => lit4 (e := 5) (x := 32) (y := 1) (z := 136) (u := 11) (by omega) (by omega) (by omega) (by omega) (by omega) (by omega) (by omega) (by omega) W
  have H0 : Hid ([ub 32, ub 1, ub 136, ub 11] ++ two z ++ two call = grB false false ++ two z ++ two call) := rfl
  obtain ⟨k, hk⟩ : ∃ k : Nat, w.heap.size = k := ⟨_, rfl⟩
  obtain ⟨w1, hw1⟩ : ∃ w1, ((w.alloc (.cells #[.int .u8 (p).tos, .int .u16 (p).id, .bool (p).keep, .int .u8 (p).ttl, .int .u8 (p).proto, .int .u32 (p).src, .int .u32 (p).dst, .slice A1 n1 c1, .slice A2 n2 c2] 26)).alloc (.cells #[.int .u16 call, .bool false, .bool true, .int .u32 seq, .int .u32 ack, .slice B1 m1 d1] 52)).alloc (.cells #[.int .u8 0, .int .u16 0, .bool false, .int .u8 0, .int .u8 0, .int .u32 0, .int .u32 0, .slice none 0 0, .slice none 0 0] 26) = w1 := ⟨_, rfl⟩
  have P1 : Blk w1 k #[.int .u8 (p).tos, .int .u16 (p).id, .bool (p).keep, .int .u8 (p).ttl, .int .u8 (p).proto, .int .u32 (p).src, .int .u32 (p).dst, .slice A1 n1 c1, .slice A2 n2 c2] 26 := by rw [← hw1]; exact ((blk_new w _ _ k hk).alloc _).alloc _
  have F1 : Blk w1 (k + 1) #[.int .u16 call, .bool false, .bool true, .int .u32 seq, .int .u32 ack, .slice B1 m1 d1] 52 := by rw [← hw1]; exact (blk_new _ _ _ (k + 1) (by simp [hk])).alloc _
  have Z1 : Blk w1 (k + 1 + 1) #[.int .u8 0, .int .u16 0, .bool false, .int .u8 0, .int .u8 0, .int .u32 0, .int .u32 0, .slice none 0 0, .slice none 0 0] 26 := by rw [← hw1]; exact blk_new _ _ _ (k + 1 + 1) (by simp [hk])
  have R1 : Below w.heap.size w w1 := by rw [← hw1]; (repeat (first | with_reducible exact Below.refl _ _ | with_reducible refine below_drew ?_ | with_reducible refine below_drewN ?_ _ | with_reducible refine below_alloc ?_ (Nat.le_refl _) _ | with_reducible refine Below.setCell ?_ (by first | exact Nat.le_refl _ | (simp only []; omega)) _ | with_reducible assumption))
  have x1 := k1.below R1
  have y1 := j1.below R1
  have pc := P1.cell
  have mc := F1.cell
  have zc := Z1.cell
  have zl1 := Z1.lt
  go_enter Try.func22, Try.ntmps22
  go_wp2_with (go_at_call 37; ((with_reducible refine (hw0 w1 x1).mono ?_); rintro e w4 ⟨C1, e1, f1, C2, e2, f2, rfl, O1, O2, hB4⟩); (obtain ⟨w5, hw5⟩ : ∃ w5, w4.alloc (.cells #[.int .u8 p.tos, .int .u16 p.id, .bool p.keep, .int .u8 p.ttl, .int .u8 47, .int .u32 p.src, .int .u32 p.dst, .slice C1 e1 f1, .slice C2 e2 f2] 26) = w5 := ⟨_, rfl⟩); have V5 : Below w4.heap.size w4 w5 := (by rw [← hw5]; (repeat (first | with_reducible exact Below.refl _ _ | with_reducible refine below_drew ?_ | with_reducible refine below_drewN ?_ _ | with_reducible refine below_alloc ?_ (Nat.le_refl _) _ | with_reducible refine Below.setCell ?_ (by first | exact Nat.le_refl _ | (simp only []; omega)) _ | with_reducible assumption))); have T5 := below_then hB4 V5; have P5 := P1.below T5; have F5 := F1.below T5; have Z5 := Z1.below T5; have zc5 := Z5.cell)
  obtain ⟨w6, hw6⟩ : ∃ w6, w5.alloc (.cells #[.int .u8 32, .int .u8 1, .int .u8 136, .int .u8 11] 5) = w6 := ⟨_, rfl⟩
  have OL := L4 w5
  have V6 : Below w5.heap.size w5 w6 := by rw [← hw6]; (repeat (first | with_reducible exact Below.refl _ _ | with_reducible refine below_drew ?_ | with_reducible refine below_drewN ?_ _ | with_reducible refine below_alloc ?_ (Nat.le_refl _) _ | with_reducible refine Below.setCell ?_ (by first | exact Nat.le_refl _ | (simp only []; omega)) _ | with_reducible assumption))
  rw [hw6] at OL ⊢
  have T6 := below_then T5 V6
  have F6 := F1.below T6
  have v6s := V6.size
  have v5s := T5.size
  have zl5 := Z5.lt
  clear hw6 hw5 zc5 pc mc zc hw1
  refine region_txt 10 (by kernel_rfl) (by kernel_rfl) ?_; (iterate 10 (first | (apply ObsK.skip (by rfl)) | (apply ObsK.v (by rfl); (intro wo hT; (repeat (first | (intro v hv; (fail)) | (intro _ _ k; try have hcv := cv k))); (have mc := (F6.below hT).cell; have hsz : w5.heap.size ≤ wo.heap.size := Nat.le_trans v6s hT.size); refine Goes.mk ?_; first | (exact goes_app _ _ rfl rfl (OL.below hT) rfl (by assumption) (by omega) hsz) | (go_simp; first | exact goes_v | exact goes_b (by assumption) | fail | (refine goes_enter ?_; first | (go_at_call 35; ((with_reducible refine (two_any z z0 z1 wo).mono ?_); rintro e w9 ⟨A9, c9, rfl, ho9, hB9⟩); exact ret_b ho9.bs hB9) | (go_at_call 35; ((with_reducible refine (two_any call ca0 ca1 wo).mono ?_); rintro e w9 ⟨A9, c9, rfl, ho9, hB9⟩); exact ret_b ho9.bs hB9))))) | (apply ObsK.b (by rfl); (intro wo hT; (repeat (first | (intro v hv; (fail)) | (intro _ _ k; try have hcv := cv k))); (have mc := (F6.below hT).cell; have hsz : w5.heap.size ≤ wo.heap.size := Nat.le_trans v6s hT.size); refine Goes.mk ?_; first | (exact goes_app _ _ rfl rfl (OL.below hT) rfl (by assumption) (by omega) hsz) | (go_simp; first | exact goes_v | exact goes_b (by assumption) | fail | (refine goes_enter ?_; first | (go_at_call 35; ((with_reducible refine (two_any z z0 z1 wo).mono ?_); rintro e w9 ⟨A9, c9, rfl, ho9, hB9⟩); exact ret_b ho9.bs hB9) | (go_at_call 35; ((with_reducible refine (two_any call ca0 ca1 wo).mono ?_); rintro e w9 ⟨A9, c9, rfl, ho9, hB9⟩); exact ret_b ho9.bs hB9))))) | (apply ObsK.p (q := isW w5.heap.size _) (by rfl) st_isW; (intro wo hT; (repeat (first | (intro v hv; (fail)) | (intro _ _ k; try have hcv := cv k))); (have mc := (F6.below hT).cell; have hsz : w5.heap.size ≤ wo.heap.size := Nat.le_trans v6s hT.size); refine Goes.mk ?_; first | (exact goes_app _ _ rfl rfl (OL.below hT) rfl (by assumption) (by omega) hsz) | (go_simp; first | exact goes_v | exact goes_b (by assumption) | fail | (refine goes_enter ?_; first | (go_at_call 35; ((with_reducible refine (two_any z z0 z1 wo).mono ?_); rintro e w9 ⟨A9, c9, rfl, ho9, hB9⟩); exact ret_b ho9.bs hB9) | (go_at_call 35; ((with_reducible refine (two_any call ca0 ca1 wo).mono ?_); rintro e w9 ⟨A9, c9, rfl, ho9, hB9⟩); exact ret_b ho9.bs hB9))))))); refine ObsK.nil ?_; intro wz hBz; simp only [finOn, List.drop_succ_cons, List.drop_zero, List.drop_nil]
  rintro A9 c9 k9 v7 ⟨A7, n7, c7, rfl, O7⟩ A8 c8 k8
  go_simp
  have u7 : n7 = 6 := by rw [← O7.len]; rfl
  subst u7
  have V7 := below_then V6 hBz
  have F7 := F1.below (below_then T5 V7)
  have mc7 := F7.cell
  clear k8
  go_wp2_with (first
    | (at_builtin; refine wpList_append_bs (w0 := w5) _ rfl _ _ _ rfl w5.heap.size 5 Try.underlying24 info_u8 A7 6 c7 _ rfl O7 A9 2 c9 (two call) rfl k9 V7 (by omega) (by first | exact Nat.le_refl _ | exact Below.size V7 | omega | (simp <;> omega)) ?_; intro A10 n10 c10 w10 ho10 hB10 _ hz10; have u10 : n10 = 8 := (by rw [← ho10.len]; rfl); subst u10; rw [H0.out] at ho10; (obtain ⟨g10, rfl, ge10, gt10⟩ := ho10.ptr (by omega)); have a10 := ho10.at_ (i := 0) (by omega); have a11 := ho10.at_ (i := 1) (by omega); have gk10 : k + 1 + 1 < g10 := (by omega); have F10 := F1.below (below_then T5 hB10); have mc10 := F10.cell; have pc10 := (P1.below (below_then T5 hB10)).cell; have zc10 := (Z1.below (below_then T5 hB10)).cell))
  have S12 : Own (w10.setCell ⟨g10, 1, none⟩ (.int .u8 129)) w5.heap.size 5 (some ⟨g10, 0, none⟩) 8 c10 (grB false true ++ two z ++ two call) := by
    have := ho10.set_ (i := 1) (by omega) 129 (y := 129) (by omega)
    exact this
  have B12 := hB10.setCell (p := ⟨g10, 1, none⟩) (by omega) (.int .u8 129)
  have M12 := (F1.below (below_then T5 B12)).cell
  have MP12 := (P1.below (below_then T5 B12)).cell
  obtain ⟨w12, hw12⟩ : ∃ w12, w10.setCell ⟨g10, 1, none⟩ (.int .u8 129) = w12 := ⟨_, rfl⟩
  rw [hw12] at S12 B12 M12 MP12 ⊢
  have bs12 := B12.size
  refine (four_any ack ak0 ak1 _).mono ?_
  rintro e w13 ⟨A13, c13, rfl, ho13, hB13⟩
  have S13 := S12.below hB13
  have B13 := below_then B12 hB13
  go_wp2_with (first
    | (at_builtin; refine wpList_append_bs (w0 := w5) _ rfl _ _ _ rfl w5.heap.size 5 Try.underlying24 info_u8 (some ⟨g10, 0, none⟩) 8 c10 _ rfl S13 A13 4 c13 (four ack) rfl ho13.bs B13 (by omega) (by first | exact Nat.le_refl _ | exact Below.size B13 | omega | (simp <;> omega)) ?_; intro A14 n14 c14 w14 ho14 hB14 _ hz14; have u14 : n14 = 12 := (by rw [← ho14.len]; rfl); subst u14; (obtain ⟨g14, rfl, ge14, gt14⟩ := ho14.ptr (by omega)); have a141 := ho14.at_ (i := 1) (by omega); have gk14 : k + 1 + 1 < g14 := (by omega); have F14 := F1.below (below_then T5 hB14); have mc14 := F14.cell; have pc14 := (P1.below (below_then T5 hB14)).cell; have zc14 := (Z1.below (below_then T5 hB14)).cell))
  have Tc := below_then T5 hB14
  have Pc := P1.below Tc
  have Fc := F1.below Tc
  have Zc := Z1.below Tc
  have pcc := Pc.cell
  have fcc := Fc.cell
  have zcc := Zc.cell
  have yc := y1.below Tc
  have xc := x1.below Tc
  have gtc := ho14.at_ (i := 0) (by omega)
  obtain ⟨wf, hwf, Sf⟩ := store9 Zc (.int .u8 0) (.int .u16 0) (.bool false) (.int .u8 0) (.int .u8 0) (.int .u32 0) (.int .u32 0) (.slice none 0 0) (.slice none 0 0)
  rw [hwf]
  have pf := Sf.blk.cell
  exact bodyPost_ret (by simp [results, Try.results22, go_sem, pf]) rfl (wiPost_no (Sf.bel (below_then R1 Tc) (by omega)))
theorem rbg_410 (p : Pkt) (A1 : Option Addr) (n1 c1 : Nat) (A2 : Option Addr) (n2 c2 : Nat) (call : Int) (seq ack : Int) (hac : (ack != 0) = false) (dat : List UInt8) (B1 : Option Addr) (m1 d1 : Nat) (w : World) (k1 : Bs w A1 n1 c1 p.opt) (j1 : Bs w B1 m1 d1 dat)
    (h : 40 < (n1 : Int) ∨ n1 % 4 ≠ 0) :
    Calls Try.prog 22 #[(.agg #[.int .u8 (p).tos, .int .u16 (p).id, .bool (p).keep, .int .u8 (p).ttl, .int .u8 (p).proto, .int .u32 (p).src, .int .u32 (p).dst, .slice A1 n1 c1, .slice A2 n2 c2]), .agg #[.int .u16 call, .bool true, .bool false, .int .u32 seq, .int .u32 ack, .slice B1 m1 d1]] w (WiPost w zP 4) := by
  have hw0 : ∀ W, Bs W A1 n1 c1 p.opt → Calls Try.prog 37 #[(.agg #[.int .u8 (p).tos, .int .u16 (p).id, .bool (p).keep, .int .u8 (p).ttl, .int .u8 (p).proto, .int .u32 (p).src, .int .u32 (p).dst, .slice A1 n1 c1, .slice A2 n2 c2]), .int .u8 47, .slice none 0 0] W (fun e w' => ∃ C1 e1 f1 C2 e2 f2, e = .returned (.tuple #[.agg #[.int .u8 0, .int .u16 0, .bool false, .int .u8 0, .int .u8 0, .int .u32 0, .int .u32 0, .slice C1 e1 f1, .slice C2 e2 f2], .int .i64 4]) ∧ Own w' W.heap.size 5 C1 e1 f1 [] ∧ Own w' W.heap.size 5 C2 e2 f2 [] ∧ Below W.heap.size W w') := fun W kk => by
    have hh := rwith_any p A1 n1 c1 A2 n2 c2 47 none 0 0 [] W kk (Bs.none_ W)
    unfold withP at hh
    rw [wiE_4 k1.len h, if_neg (by decide)] at hh
    exact hh.mono fun e w' hq => hq.out
  have b1 := j1.max
  obtain ⟨k, hk⟩ : ∃ k : Nat, w.heap.size = k := ⟨_, rfl⟩
  obtain ⟨w1, hw1⟩ : ∃ w1, ((w.alloc (.cells #[.int .u8 (p).tos, .int .u16 (p).id, .bool (p).keep, .int .u8 (p).ttl, .int .u8 (p).proto, .int .u32 (p).src, .int .u32 (p).dst, .slice A1 n1 c1, .slice A2 n2 c2] 26)).alloc (.cells #[.int .u16 call, .bool true, .bool false, .int .u32 seq, .int .u32 ack, .slice B1 m1 d1] 52)).alloc (.cells #[.int .u8 0, .int .u16 0, .bool false, .int .u8 0, .int .u8 0, .int .u32 0, .int .u32 0, .slice none 0 0, .slice none 0 0] 26) = w1 := ⟨_, rfl⟩
  have P1 : Blk w1 k #[.int .u8 (p).tos, .int .u16 (p).id, .bool (p).keep, .int .u8 (p).ttl, .int .u8 (p).proto, .int .u32 (p).src, .int .u32 (p).dst, .slice A1 n1 c1, .slice A2 n2 c2] 26 := by rw [← hw1]; exact ((blk_new w _ _ k hk).alloc _).alloc _
  have F1 : Blk w1 (k + 1) #[.int .u16 call, .bool true, .bool false, .int .u32 seq, .int .u32 ack, .slice B1 m1 d1] 52 := by rw [← hw1]; exact (blk_new _ _ _ (k + 1) (by simp [hk])).alloc _
  have Z1 : Blk w1 (k + 1 + 1) #[.int .u8 0, .int .u16 0, .bool false, .int .u8 0, .int .u8 0, .int .u32 0, .int .u32 0, .slice none 0 0, .slice none 0 0] 26 := by rw [← hw1]; exact blk_new _ _ _ (k + 1 + 1) (by simp [hk])
  have R1 : Below w.heap.size w w1 := by rw [← hw1]; (repeat (first | with_reducible exact Below.refl _ _ | with_reducible refine below_drew ?_ | with_reducible refine below_drewN ?_ _ | with_reducible refine below_alloc ?_ (Nat.le_refl _) _ | with_reducible refine Below.setCell ?_ (by first | exact Nat.le_refl _ | (simp only []; omega)) _ | with_reducible assumption))
  have x1 := k1.below R1
  have y1 := j1.below R1
  have pc := P1.cell
  have mc := F1.cell
  have zc := Z1.cell
  have zl1 := Z1.lt
  go_enter Try.func22, Try.ntmps22
  go_wp2_with (go_at_call 37; ((with_reducible refine (hw0 w1 x1).mono ?_); rintro e w4 ⟨C1, e1, f1, C2, e2, f2, rfl, O1, O2, hB4⟩); (obtain ⟨w5, hw5⟩ : ∃ w5, w4.alloc (.cells #[.int .u8 0, .int .u16 0, .bool false, .int .u8 0, .int .u8 0, .int .u32 0, .int .u32 0, .slice C1 e1 f1, .slice C2 e2 f2] 26) = w5 := ⟨_, rfl⟩); have V5 : Below w4.heap.size w4 w5 := (by rw [← hw5]; (repeat (first | with_reducible exact Below.refl _ _ | with_reducible refine below_drew ?_ | with_reducible refine below_drewN ?_ _ | with_reducible refine below_alloc ?_ (Nat.le_refl _) _ | with_reducible refine Below.setCell ?_ (by first | exact Nat.le_refl _ | (simp only []; omega)) _ | with_reducible assumption))); have T5 := below_then hB4 V5; have P5 := P1.below T5; have F5 := F1.below T5; have Z5 := Z1.below T5; have zc5 := Z5.cell)
  obtain ⟨wf, hwf, Sf⟩ := store9 Z5 (.int .u8 0) (.int .u16 0) (.bool false) (.int .u8 0) (.int .u8 0) (.int .u32 0) (.int .u32 0) (.slice none 0 0) (.slice none 0 0)
  rw [hwf]
  have pf := Sf.blk.cell
  exact bodyPost_ret (by simp [results, Try.results22, go_sem, pf]) rfl (wiPost_no (Sf.bel (below_then R1 T5) (by omega)))
theorem rbg_ok10 (p : Pkt) (A1 : Option Addr) (n1 c1 : Nat) (A2 : Option Addr) (n2 c2 : Nat) (call : Int) (seq ack : Int) (hac : (ack != 0) = false) (dat : List UInt8) (B1 : Option Addr) (m1 d1 : Nat) (w : World) (k1 : Bs w A1 n1 c1 p.opt) (j1 : Bs w B1 m1 d1 dat)
    (hca : 0 ≤ call ∧ call ≤ 65535) (hse : 0 ≤ seq ∧ seq ≤ 4294967295) (hak : 0 ≤ ack ∧ ack ≤ 4294967295) (h1 : (n1 : Int) ≤ 40) (h2 : n1 % 4 = 0) (Q : Pkt) (E : Int) (h3 : 20 + (n1 : Int) + 12 + m1 ≤ 65535) (hok : ∀ W A n c, Bs W A1 n1 c1 p.opt → Bs W A n c (((grB true false ++ two ((m1 : Int) % 65536) ++ two call) ++ four seq) ++ dat) → Calls Try.prog 37 #[(.agg #[.int .u8 (p).tos, .int .u16 (p).id, .bool (p).keep, .int .u8 (p).ttl, .int .u8 (p).proto, .int .u32 (p).src, .int .u32 (p).dst, .slice A1 n1 c1, .slice A2 n2 c2]), .int .u8 47, .slice A n c] W (WiPost W Q E)) :
    Calls Try.prog 22 #[(.agg #[.int .u8 (p).tos, .int .u16 (p).id, .bool (p).keep, .int .u8 (p).ttl, .int .u8 (p).proto, .int .u32 (p).src, .int .u32 (p).dst, .slice A1 n1 c1, .slice A2 n2 c2]), .agg #[.int .u16 call, .bool true, .bool false, .int .u32 seq, .int .u32 ack, .slice B1 m1 d1]] w (WiPost w Q E) := by
  have hw0 : ∀ W, Bs W A1 n1 c1 p.opt → Calls Try.prog 37 #[(.agg #[.int .u8 (p).tos, .int .u16 (p).id, .bool (p).keep, .int .u8 (p).ttl, .int .u8 (p).proto, .int .u32 (p).src, .int .u32 (p).dst, .slice A1 n1 c1, .slice A2 n2 c2]), .int .u8 47, .slice none 0 0] W (fun e w' => ∃ C1 e1 f1 C2 e2 f2, e = .returned (.tuple #[.agg #[.int .u8 p.tos, .int .u16 p.id, .bool p.keep, .int .u8 p.ttl, .int .u8 47, .int .u32 p.src, .int .u32 p.dst, .slice C1 e1 f1, .slice C2 e2 f2], .int .i64 0]) ∧ Own w' W.heap.size 5 C1 e1 f1 p.opt ∧ Own w' W.heap.size 5 C2 e2 f2 [] ∧ Below W.heap.size W w') := fun W kk => by
    have hh := rwith_any p A1 n1 c1 A2 n2 c2 47 none 0 0 [] W kk (Bs.none_ W)
    unfold withP at hh
    rw [show ([] : List UInt8).length = 0 from rfl, wiE_0 k1.len h1 h2 (by omega), if_pos rfl] at hh
    exact hh.mono fun e w' hq => hq.out
  have b1 := j1.max
  obtain ⟨ca0, ca1⟩ := hca
  obtain ⟨se0, se1⟩ := hse
  obtain ⟨ak0, ak1⟩ := hak
  obtain ⟨z, hz⟩ : ∃ z : Int, (m1 : Int) % 65536 = z := ⟨_, rfl⟩
  have z0 : 0 ≤ z := by omega
  have z1 : z ≤ 65535 := by omega
  have hzw : IntKind.u16.wrap (m1 : Int) = z := by rw [← hz]; simp [IntKind.wrap, IntKind.signed, IntKind.bits]
  rw [hz] at hok
  have L4 := fun W => lit4 (e := 5) (x := 32) (y := 1) (z := 136) (u := 11) (by omega) (by omega) (by omega) (by omega) (by omega) (by omega) (by omega) (by omega) W
  have H0 : Hid ([ub 32, ub 1, ub 136, ub 11] ++ two z ++ two call = grB false false ++ two z ++ two call) := rfl
  obtain ⟨k, hk⟩ : ∃ k : Nat, w.heap.size = k := ⟨_, rfl⟩
  obtain ⟨w1, hw1⟩ : ∃ w1, ((w.alloc (.cells #[.int .u8 (p).tos, .int .u16 (p).id, .bool (p).keep, .int .u8 (p).ttl, .int .u8 (p).proto, .int .u32 (p).src, .int .u32 (p).dst, .slice A1 n1 c1, .slice A2 n2 c2] 26)).alloc (.cells #[.int .u16 call, .bool true, .bool false, .int .u32 seq, .int .u32 ack, .slice B1 m1 d1] 52)).alloc (.cells #[.int .u8 0, .int .u16 0, .bool false, .int .u8 0, .int .u8 0, .int .u32 0, .int .u32 0, .slice none 0 0, .slice none 0 0] 26) = w1 := ⟨_, rfl⟩
  have P1 : Blk w1 k #[.int .u8 (p).tos, .int .u16 (p).id, .bool (p).keep, .int .u8 (p).ttl, .int .u8 (p).proto, .int .u32 (p).src, .int .u32 (p).dst, .slice A1 n1 c1, .slice A2 n2 c2] 26 := by rw [← hw1]; exact ((blk_new w _ _ k hk).alloc _).alloc _
  have F1 : Blk w1 (k + 1) #[.int .u16 call, .bool true, .bool false, .int .u32 seq, .int .u32 ack, .slice B1 m1 d1] 52 := by rw [← hw1]; exact (blk_new _ _ _ (k + 1) (by simp [hk])).alloc _
  have Z1 : Blk w1 (k + 1 + 1) #[.int .u8 0, .int .u16 0, .bool false, .int .u8 0, .int .u8 0, .int .u32 0, .int .u32 0, .slice none 0 0, .slice none 0 0] 26 := by rw [← hw1]; exact blk_new _ _ _ (k + 1 + 1) (by simp [hk])
  have R1 : Below w.heap.size w w1 := by rw [← hw1]; (repeat (first | with_reducible exact Below.refl _ _ | with_reducible refine below_drew ?_ | with_reducible refine below_drewN ?_ _ | with_reducible refine below_alloc ?_ (Nat.le_refl _) _ | with_reducible refine Below.setCell ?_ (by first | exact Nat.le_refl _ | (simp only []; omega)) _ | with_reducible assumption))
  have x1 := k1.below R1
  have y1 := j1.below R1
  have pc := P1.cell
  have mc := F1.cell
  have zc := Z1.cell
  have zl1 := Z1.lt
  go_enter Try.func22, Try.ntmps22
  go_wp2_with (go_at_call 37; ((with_reducible refine (hw0 w1 x1).mono ?_); rintro e w4 ⟨C1, e1, f1, C2, e2, f2, rfl, O1, O2, hB4⟩); (obtain ⟨w5, hw5⟩ : ∃ w5, w4.alloc (.cells #[.int .u8 p.tos, .int .u16 p.id, .bool p.keep, .int .u8 p.ttl, .int .u8 47, .int .u32 p.src, .int .u32 p.dst, .slice C1 e1 f1, .slice C2 e2 f2] 26) = w5 := ⟨_, rfl⟩); have V5 : Below w4.heap.size w4 w5 := (by rw [← hw5]; (repeat (first | with_reducible exact Below.refl _ _ | with_reducible refine below_drew ?_ | with_reducible refine below_drewN ?_ _ | with_reducible refine below_alloc ?_ (Nat.le_refl _) _ | with_reducible refine Below.setCell ?_ (by first | exact Nat.le_refl _ | (simp only []; omega)) _ | with_reducible assumption))); have T5 := below_then hB4 V5; have P5 := P1.below T5; have F5 := F1.below T5; have Z5 := Z1.below T5; have zc5 := Z5.cell)
  obtain ⟨w6, hw6⟩ : ∃ w6, w5.alloc (.cells #[.int .u8 32, .int .u8 1, .int .u8 136, .int .u8 11] 5) = w6 := ⟨_, rfl⟩
  have OL := L4 w5
  have V6 : Below w5.heap.size w5 w6 := by rw [← hw6]; (repeat (first | with_reducible exact Below.refl _ _ | with_reducible refine below_drew ?_ | with_reducible refine below_drewN ?_ _ | with_reducible refine below_alloc ?_ (Nat.le_refl _) _ | with_reducible refine Below.setCell ?_ (by first | exact Nat.le_refl _ | (simp only []; omega)) _ | with_reducible assumption))
  rw [hw6] at OL ⊢
  have T6 := below_then T5 V6
  have F6 := F1.below T6
  have v6s := V6.size
  have v5s := T5.size
  have zl5 := Z5.lt
  clear hw6 hw5 zc5 pc mc zc hw1
  refine region_txt 10 (by kernel_rfl) (by kernel_rfl) ?_; (iterate 10 (first | (apply ObsK.skip (by rfl)) | (apply ObsK.v (by rfl); (intro wo hT; (repeat (first | (intro v hv; (fail)) | (intro _ _ k; try have hcv := cv k))); (have mc := (F6.below hT).cell; have hsz : w5.heap.size ≤ wo.heap.size := Nat.le_trans v6s hT.size); refine Goes.mk ?_; first | (exact goes_app _ _ rfl rfl (OL.below hT) rfl (by assumption) (by omega) hsz) | (go_simp; first | exact goes_v | exact goes_b (by assumption) | fail | (refine goes_enter ?_; first | (go_at_call 35; ((with_reducible refine (two_any z z0 z1 wo).mono ?_); rintro e w9 ⟨A9, c9, rfl, ho9, hB9⟩); exact ret_b ho9.bs hB9) | (go_at_call 35; ((with_reducible refine (two_any call ca0 ca1 wo).mono ?_); rintro e w9 ⟨A9, c9, rfl, ho9, hB9⟩); exact ret_b ho9.bs hB9))))) | (apply ObsK.b (by rfl); (intro wo hT; (repeat (first | (intro v hv; (fail)) | (intro _ _ k; try have hcv := cv k))); (have mc := (F6.below hT).cell; have hsz : w5.heap.size ≤ wo.heap.size := Nat.le_trans v6s hT.size); refine Goes.mk ?_; first | (exact goes_app _ _ rfl rfl (OL.below hT) rfl (by assumption) (by omega) hsz) | (go_simp; first | exact goes_v | exact goes_b (by assumption) | fail | (refine goes_enter ?_; first | (go_at_call 35; ((with_reducible refine (two_any z z0 z1 wo).mono ?_); rintro e w9 ⟨A9, c9, rfl, ho9, hB9⟩); exact ret_b ho9.bs hB9) | (go_at_call 35; ((with_reducible refine (two_any call ca0 ca1 wo).mono ?_); rintro e w9 ⟨A9, c9, rfl, ho9, hB9⟩); exact ret_b ho9.bs hB9))))) | (apply ObsK.p (q := isW w5.heap.size _) (by rfl) st_isW; (intro wo hT; (repeat (first | (intro v hv; (fail)) | (intro _ _ k; try have hcv := cv k))); (have mc := (F6.below hT).cell; have hsz : w5.heap.size ≤ wo.heap.size := Nat.le_trans v6s hT.size); refine Goes.mk ?_; first | (exact goes_app _ _ rfl rfl (OL.below hT) rfl (by assumption) (by omega) hsz) | (go_simp; first | exact goes_v | exact goes_b (by assumption) | fail | (refine goes_enter ?_; first | (go_at_call 35; ((with_reducible refine (two_any z z0 z1 wo).mono ?_); rintro e w9 ⟨A9, c9, rfl, ho9, hB9⟩); exact ret_b ho9.bs hB9) | (go_at_call 35; ((with_reducible refine (two_any call ca0 ca1 wo).mono ?_); rintro e w9 ⟨A9, c9, rfl, ho9, hB9⟩); exact ret_b ho9.bs hB9))))))); refine ObsK.nil ?_; intro wz hBz; simp only [finOn, List.drop_succ_cons, List.drop_zero, List.drop_nil]
  rintro A9 c9 k9 v7 ⟨A7, n7, c7, rfl, O7⟩ A8 c8 k8
  go_simp
  have u7 : n7 = 6 := by rw [← O7.len]; rfl
  subst u7
  have V7 := below_then V6 hBz
  have F7 := F1.below (below_then T5 V7)
  have mc7 := F7.cell
  clear k8
  go_wp2_with (first
    | (at_builtin; refine wpList_append_bs (w0 := w5) _ rfl _ _ _ rfl w5.heap.size 5 Try.underlying24 info_u8 A7 6 c7 _ rfl O7 A9 2 c9 (two call) rfl k9 V7 (by omega) (by first | exact Nat.le_refl _ | exact Below.size V7 | omega | (simp <;> omega)) ?_; intro A10 n10 c10 w10 ho10 hB10 _ hz10; have u10 : n10 = 8 := (by rw [← ho10.len]; rfl); subst u10; rw [H0.out] at ho10; (obtain ⟨g10, rfl, ge10, gt10⟩ := ho10.ptr (by omega)); have a10 := ho10.at_ (i := 0) (by omega); have a11 := ho10.at_ (i := 1) (by omega); have gk10 : k + 1 + 1 < g10 := (by omega); have F10 := F1.below (below_then T5 hB10); have mc10 := F10.cell; have pc10 := (P1.below (below_then T5 hB10)).cell; have zc10 := (Z1.below (below_then T5 hB10)).cell))
  have S12 : Own (w10.setCell ⟨g10, 0, none⟩ (.int .u8 48)) w5.heap.size 5 (some ⟨g10, 0, none⟩) 8 c10 (grB true false ++ two z ++ two call) := by
    have := ho10.set_ (i := 0) (by omega) 48 (y := 48) (by omega)
    exact this
  have B12 := hB10.setCell (p := ⟨g10, 0, none⟩) (by omega) (.int .u8 48)
  have M12 := (F1.below (below_then T5 B12)).cell
  have MP12 := (P1.below (below_then T5 B12)).cell
  obtain ⟨w12, hw12⟩ : ∃ w12, w10.setCell ⟨g10, 0, none⟩ (.int .u8 48) = w12 := ⟨_, rfl⟩
  rw [hw12] at S12 B12 M12 MP12 ⊢
  have bs12 := B12.size
  refine (four_any seq se0 se1 _).mono ?_
  rintro e w13 ⟨A13, c13, rfl, ho13, hB13⟩
  have S13 := S12.below hB13
  have B13 := below_then B12 hB13
  go_wp2_with (first
    | (at_builtin; refine wpList_append_bs (w0 := w5) _ rfl _ _ _ rfl w5.heap.size 5 Try.underlying24 info_u8 (some ⟨g10, 0, none⟩) 8 c10 _ rfl S13 A13 4 c13 (four seq) rfl ho13.bs B13 (by omega) (by first | exact Nat.le_refl _ | exact Below.size B13 | omega | (simp <;> omega)) ?_; intro A14 n14 c14 w14 ho14 hB14 _ hz14; have u14 : n14 = 12 := (by rw [← ho14.len]; rfl); subst u14; (obtain ⟨g14, rfl, ge14, gt14⟩ := ho14.ptr (by omega)); have a141 := ho14.at_ (i := 1) (by omega); have gk14 : k + 1 + 1 < g14 := (by omega); have F14 := F1.below (below_then T5 hB14); have mc14 := F14.cell; have pc14 := (P1.below (below_then T5 hB14)).cell; have zc14 := (Z1.below (below_then T5 hB14)).cell))
  have Tc := below_then T5 hB14
  have Pc := P1.below Tc
  have Fc := F1.below Tc
  have Zc := Z1.below Tc
  have pcc := Pc.cell
  have fcc := Fc.cell
  have zcc := Zc.cell
  have yc := y1.below Tc
  have xc := x1.below Tc
  have gtc := ho14.at_ (i := 0) (by omega)
  have hw1' := hok
  clear hok
  refine regionX 8 [4] g14 (fun c W => match c with | 0 => Own W w5.heap.size 5 (some ⟨g14, 0, none⟩) 12 c14 ((grB true false ++ two z ++ two call) ++ four seq) | _ + 1 => True) (by kernel_rfl) (by kernel_rfl) (by kernel_rfl) ho14 (fun c W W' hj hb => by cases c with | zero => exact Own.below hj hb | succ n => trivial) ?_; (iterate 8 (first | (apply ObsX.skip (by rfl) (by rfl)) | (apply ObsX.v (by rfl) (by rfl); (intro wo hE; (repeat (first | (intro v hv; ((first | (obtain ⟨Ap, np, cp, rfl, op⟩ := hv; have obp := op.bs) | (obtain ⟨D1, g1, h1', D2, g2, h2', rfl, o13, o14⟩ := hv)))) | (intro _ _ k; try have hcv := cv k))); (have pco := (Pc.ext hE (by omega)).cell; have mco := (Fc.ext hE (by omega)).cell; have xo := x1.below (below_ext Tc hE (by omega) Tc.size); have yo := y1.below (below_ext Tc hE (by omega) Tc.size); have hsz := hE.size); refine Goes.mk ?_; first | (exact goes_appX _ _ rfl rfl hj (fun k e => by simp [Value.ownBlock] at e; exact e.symm) rfl yo (by omega) (by omega) (fun _ => trivial)) | (go_simp; first | exact goes_v | exact goes_pk (by assumption) (by assumption) | (refine goes_enter ?_; first | (go_at_call 37; ((with_reducible refine (hw1' wo Ap np cp xo obp).mono ?_); rintro e w12 ⟨⟨D1, g1, h1', D2, g2, h2', rfl, O13, O14, hB12⟩⟩); exact ret_tup (O13.mono hsz) (O14.mono hsz) hB12))))) | (apply ObsX.p (q := isTup w14.heap.size Q E) (by rfl) (by rfl) st_isTup (sx_isTup (by omega)); (intro wo hE; (repeat (first | (intro v hv; ((first | (obtain ⟨Ap, np, cp, rfl, op⟩ := hv; have obp := op.bs) | (obtain ⟨D1, g1, h1', D2, g2, h2', rfl, o13, o14⟩ := hv)))) | (intro _ _ k; try have hcv := cv k))); (have pco := (Pc.ext hE (by omega)).cell; have mco := (Fc.ext hE (by omega)).cell; have xo := x1.below (below_ext Tc hE (by omega) Tc.size); have yo := y1.below (below_ext Tc hE (by omega) Tc.size); have hsz := hE.size); refine Goes.mk ?_; first | (exact goes_appX _ _ rfl rfl hj (fun k e => by simp [Value.ownBlock] at e; exact e.symm) rfl yo (by omega) (by omega) (fun _ => trivial)) | (go_simp; first | exact goes_v | exact goes_pk (by assumption) (by assumption) | (refine goes_enter ?_; first | (go_at_call 37; ((with_reducible refine (hw1' wo Ap np cp xo obp).mono ?_); rintro e w12 ⟨⟨D1, g1, h1', D2, g2, h2', rfl, O13, O14, hB12⟩⟩); exact ret_tup (O13.mono hsz) (O14.mono hsz) hB12))))) | (apply ObsX.p (q := isPk w14.heap.size Q) (by rfl) (by rfl) st_isPk (sx_isPk (by omega)); (intro wo hE; (repeat (first | (intro v hv; ((first | (obtain ⟨Ap, np, cp, rfl, op⟩ := hv; have obp := op.bs) | (obtain ⟨D1, g1, h1', D2, g2, h2', rfl, o13, o14⟩ := hv)))) | (intro _ _ k; try have hcv := cv k))); (have pco := (Pc.ext hE (by omega)).cell; have mco := (Fc.ext hE (by omega)).cell; have xo := x1.below (below_ext Tc hE (by omega) Tc.size); have yo := y1.below (below_ext Tc hE (by omega) Tc.size); have hsz := hE.size); refine Goes.mk ?_; first | (exact goes_appX _ _ rfl rfl hj (fun k e => by simp [Value.ownBlock] at e; exact e.symm) rfl yo (by omega) (by omega) (fun _ => trivial)) | (go_simp; first | exact goes_v | exact goes_pk (by assumption) (by assumption) | (refine goes_enter ?_; first | (go_at_call 37; ((with_reducible refine (hw1' wo Ap np cp xo obp).mono ?_); rintro e w12 ⟨⟨D1, g1, h1', D2, g2, h2', rfl, O13, O14, hB12⟩⟩); exact ret_tup (O13.mono hsz) (O14.mono hsz) hB12))))) | (apply ObsX.ev (by rfl) (by rfl); (intro wo hE hj; (repeat (first | (intro v hv; ((first | (obtain ⟨Ap, np, cp, rfl, op⟩ := hv; have obp := op.bs) | (obtain ⟨D1, g1, h1', D2, g2, h2', rfl, o13, o14⟩ := hv)))) | (intro _ _ k; try have hcv := cv k))); (have pco := (Pc.ext hE (by omega)).cell; have mco := (Fc.ext hE (by omega)).cell; have xo := x1.below (below_ext Tc hE (by omega) Tc.size); have yo := y1.below (below_ext Tc hE (by omega) Tc.size); have hsz := hE.size); refine GoesX.mk ?_; first | (exact goes_appX _ _ rfl rfl hj (fun k e => by simp [Value.ownBlock] at e; exact e.symm) rfl yo (by omega) (by omega) (fun _ => trivial)) | (go_simp; first | exact goes_v | exact goes_pk (by assumption) (by assumption) | (refine goes_enter ?_; first | (go_at_call 37; ((with_reducible refine (hw1' wo Ap np cp xo obp).mono ?_); rintro e w12 ⟨⟨D1, g1, h1', D2, g2, h2', rfl, O13, O14, hB12⟩⟩); exact ret_tup (O13.mono hsz) (O14.mono hsz) hB12))))) | (apply ObsX.ep (q := isTup w14.heap.size Q E) (by rfl) (by rfl) (by rfl) st_isTup; (intro wo hE hj; (repeat (first | (intro v hv; ((first | (obtain ⟨Ap, np, cp, rfl, op⟩ := hv; have obp := op.bs) | (obtain ⟨D1, g1, h1', D2, g2, h2', rfl, o13, o14⟩ := hv)))) | (intro _ _ k; try have hcv := cv k))); (have pco := (Pc.ext hE (by omega)).cell; have mco := (Fc.ext hE (by omega)).cell; have xo := x1.below (below_ext Tc hE (by omega) Tc.size); have yo := y1.below (below_ext Tc hE (by omega) Tc.size); have hsz := hE.size); refine GoesX.mk ?_; first | (exact goes_appX _ _ rfl rfl hj (fun k e => by simp [Value.ownBlock] at e; exact e.symm) rfl yo (by omega) (by omega) (fun _ => trivial)) | (go_simp; first | exact goes_v | exact goes_pk (by assumption) (by assumption) | (refine goes_enter ?_; first | (go_at_call 37; ((with_reducible refine (hw1' wo Ap np cp xo obp).mono ?_); rintro e w12 ⟨⟨D1, g1, h1', D2, g2, h2', rfl, O13, O14, hB12⟩⟩); exact ret_tup (O13.mono hsz) (O14.mono hsz) hB12))))) | (apply ObsX.ep (q := isPk w14.heap.size Q) (by rfl) (by rfl) (by rfl) st_isPk; (intro wo hE hj; (repeat (first | (intro v hv; ((first | (obtain ⟨Ap, np, cp, rfl, op⟩ := hv; have obp := op.bs) | (obtain ⟨D1, g1, h1', D2, g2, h2', rfl, o13, o14⟩ := hv)))) | (intro _ _ k; try have hcv := cv k))); (have pco := (Pc.ext hE (by omega)).cell; have mco := (Fc.ext hE (by omega)).cell; have xo := x1.below (below_ext Tc hE (by omega) Tc.size); have yo := y1.below (below_ext Tc hE (by omega) Tc.size); have hsz := hE.size); refine GoesX.mk ?_; first | (exact goes_appX _ _ rfl rfl hj (fun k e => by simp [Value.ownBlock] at e; exact e.symm) rfl yo (by omega) (by omega) (fun _ => trivial)) | (go_simp; first | exact goes_v | exact goes_pk (by assumption) (by assumption) | (refine goes_enter ?_; first | (go_at_call 37; ((with_reducible refine (hw1' wo Ap np cp xo obp).mono ?_); rintro e w12 ⟨⟨D1, g1, h1', D2, g2, h2', rfl, O13, O14, hB12⟩⟩); exact ret_tup (O13.mono hsz) (O14.mono hsz) hB12))))) | (apply ObsX.ep (q := isW w5.heap.size _) (by rfl) (by rfl) (by rfl) st_isW; (intro wo hE hj; (repeat (first | (intro v hv; ((first | (obtain ⟨Ap, np, cp, rfl, op⟩ := hv; have obp := op.bs) | (obtain ⟨D1, g1, h1', D2, g2, h2', rfl, o13, o14⟩ := hv)))) | (intro _ _ k; try have hcv := cv k))); (have pco := (Pc.ext hE (by omega)).cell; have mco := (Fc.ext hE (by omega)).cell; have xo := x1.below (below_ext Tc hE (by omega) Tc.size); have yo := y1.below (below_ext Tc hE (by omega) Tc.size); have hsz := hE.size); refine GoesX.mk ?_; first | (exact goes_appX _ _ rfl rfl hj (fun k e => by simp [Value.ownBlock] at e; exact e.symm) rfl yo (by omega) (by omega) (fun _ => trivial)) | (go_simp; first | exact goes_v | exact goes_pk (by assumption) (by assumption) | (refine goes_enter ?_; first | (go_at_call 37; ((with_reducible refine (hw1' wo Ap np cp xo obp).mono ?_); rintro e w12 ⟨⟨D1, g1, h1', D2, g2, h2', rfl, O13, O14, hB12⟩⟩); exact ret_tup (O13.mono hsz) (O14.mono hsz) hB12))))))); refine ObsX.nil ?_; intro wz hEz hJz; simp only [finOn, List.drop_succ_cons, List.drop_zero, List.drop_nil]
  rintro v12 ⟨D1, g1, h1', D2, g2, h2', rfl, O13, O14⟩ v13 hv13 v14 hv14
  clear hv13 hv14
  go_simp
  have Zz := Zc.ext hEz (by omega)
  have zcz := Zz.cell
  have Tz := below_ext Tc hEz (by omega) Tc.size
  have r1s := R1.size
  go_wp2_with fail
  obtain ⟨wf, hwf, Sf⟩ := store9 Zz (.int .u8 Q.tos) (.int .u16 Q.id) (.bool Q.keep) (.int .u8 Q.ttl) (.int .u8 Q.proto) (.int .u32 Q.src) (.int .u32 Q.dst) (.slice D1 g1 h1') (.slice D2 g2 h2')
  rw [hwf]
  have pf := Sf.blk.cell
  have Of := Sf.own O13 (fun a e => by have := O13.ge a e; omega)
  have Df := Sf.own O14 (fun a e => by have := O14.ge a e; omega)
  have tcs := Tc.size
  refine bodyPost_ret (v := .tuple #[(.agg #[.int .u8 (Q).tos, .int .u16 (Q).id, .bool (Q).keep, .int .u8 (Q).ttl, .int .u8 (Q).proto, .int .u32 (Q).src, .int .u32 (Q).dst, .slice D1 g1 h1', .slice D2 g2 h2']), .int .i64 E]) (by simp [results, Try.results22, go_sem, pf]) rfl ⟨⟨D1, g1, h1', D2, g2, h2', rfl, Of.mono (by omega), Df.mono (by omega), Sf.bel (below_then R1 Tz) (by omega)⟩⟩
theorem rbg_long10 (p : Pkt) (A1 : Option Addr) (n1 c1 : Nat) (A2 : Option Addr) (n2 c2 : Nat) (call : Int) (seq ack : Int) (hac : (ack != 0) = false) (dat : List UInt8) (B1 : Option Addr) (m1 d1 : Nat) (w : World) (k1 : Bs w A1 n1 c1 p.opt) (j1 : Bs w B1 m1 d1 dat)
    (hca : 0 ≤ call ∧ call ≤ 65535) (hse : 0 ≤ seq ∧ seq ≤ 4294967295) (hak : 0 ≤ ack ∧ ack ≤ 4294967295) (h1 : (n1 : Int) ≤ 40) (h2 : n1 % 4 = 0) (Q : Pkt) (E : Int) (h3 : 65535 < 20 + (n1 : Int) + 12 + m1) (hQ : Q = zP) (hE8 : E = 8) :
    Calls Try.prog 22 #[(.agg #[.int .u8 (p).tos, .int .u16 (p).id, .bool (p).keep, .int .u8 (p).ttl, .int .u8 (p).proto, .int .u32 (p).src, .int .u32 (p).dst, .slice A1 n1 c1, .slice A2 n2 c2]), .agg #[.int .u16 call, .bool true, .bool false, .int .u32 seq, .int .u32 ack, .slice B1 m1 d1]] w (WiPost w Q E) := by
  have hw0 : ∀ W, Bs W A1 n1 c1 p.opt → Calls Try.prog 37 #[(.agg #[.int .u8 (p).tos, .int .u16 (p).id, .bool (p).keep, .int .u8 (p).ttl, .int .u8 (p).proto, .int .u32 (p).src, .int .u32 (p).dst, .slice A1 n1 c1, .slice A2 n2 c2]), .int .u8 47, .slice none 0 0] W (fun e w' => ∃ C1 e1 f1 C2 e2 f2, e = .returned (.tuple #[.agg #[.int .u8 p.tos, .int .u16 p.id, .bool p.keep, .int .u8 p.ttl, .int .u8 47, .int .u32 p.src, .int .u32 p.dst, .slice C1 e1 f1, .slice C2 e2 f2], .int .i64 0]) ∧ Own w' W.heap.size 5 C1 e1 f1 p.opt ∧ Own w' W.heap.size 5 C2 e2 f2 [] ∧ Below W.heap.size W w') := fun W kk => by
    have hh := rwith_any p A1 n1 c1 A2 n2 c2 47 none 0 0 [] W kk (Bs.none_ W)
    unfold withP at hh
    rw [show ([] : List UInt8).length = 0 from rfl, wiE_0 k1.len h1 h2 (by omega), if_pos rfl] at hh
    exact hh.mono fun e w' hq => hq.out
  have b1 := j1.max
  obtain ⟨ca0, ca1⟩ := hca
  obtain ⟨se0, se1⟩ := hse
  obtain ⟨ak0, ak1⟩ := hak
  obtain ⟨z, hz⟩ : ∃ z : Int, (m1 : Int) % 65536 = z := ⟨_, rfl⟩
  have z0 : 0 ≤ z := by omega
  have z1 : z ≤ 65535 := by omega
  have hzw : IntKind.u16.wrap (m1 : Int) = z := by rw [← hz]; simp [IntKind.wrap, IntKind.signed, IntKind.bits]
  subst hQ hE8
  have L4 := fun W => lit4 (e := 5) (x := 32) (y := 1) (z := 136) (u := 11) (by omega) (by omega) (by omega) (by omega) (by omega) (by omega) (by omega) (by omega) W
  have H0 : Hid ([ub 32, ub 1, ub 136, ub 11] ++ two z ++ two call = grB false false ++ two z ++ two call) := rfl
  obtain ⟨k, hk⟩ : ∃ k : Nat, w.heap.size = k := ⟨_, rfl⟩
  obtain ⟨w1, hw1⟩ : ∃ w1, ((w.alloc (.cells #[.int .u8 (p).tos, .int .u16 (p).id, .bool (p).keep, .int .u8 (p).ttl, .int .u8 (p).proto, .int .u32 (p).src, .int .u32 (p).dst, .slice A1 n1 c1, .slice A2 n2 c2] 26)).alloc (.cells #[.int .u16 call, .bool true, .bool false, .int .u32 seq, .int .u32 ack, .slice B1 m1 d1] 52)).alloc (.cells #[.int .u8 0, .int .u16 0, .bool false, .int .u8 0, .int .u8 0, .int .u32 0, .int .u32 0, .slice none 0 0, .slice none 0 0] 26) = w1 := ⟨_, rfl⟩
  have P1 : Blk w1 k #[.int .u8 (p).tos, .int .u16 (p).id, .bool (p).keep, .int .u8 (p).ttl, .int .u8 (p).proto, .int .u32 (p).src, .int .u32 (p).dst, .slice A1 n1 c1, .slice A2 n2 c2] 26 := by rw [← hw1]; exact ((blk_new w _ _ k hk).alloc _).alloc _
  have F1 : Blk w1 (k + 1) #[.int .u16 call, .bool true, .bool false, .int .u32 seq, .int .u32 ack, .slice B1 m1 d1] 52 := by rw [← hw1]; exact (blk_new _ _ _ (k + 1) (by simp [hk])).alloc _
  have Z1 : Blk w1 (k + 1 + 1) #[.int .u8 0, .int .u16 0, .bool false, .int .u8 0, .int .u8 0, .int .u32 0, .int .u32 0, .slice none 0 0, .slice none 0 0] 26 := by rw [← hw1]; exact blk_new _ _ _ (k + 1 + 1) (by simp [hk])
  have R1 : Below w.heap.size w w1 := by rw [← hw1]; (repeat (first | with_reducible exact Below.refl _ _ | with_reducible refine below_drew ?_ | with_reducible refine below_drewN ?_ _ | with_reducible refine below_alloc ?_ (Nat.le_refl _) _ | with_reducible refine Below.setCell ?_ (by first | exact Nat.le_refl _ | (simp only []; omega)) _ | with_reducible assumption))
  have x1 := k1.below R1
  have y1 := j1.below R1
  have pc := P1.cell
  have mc := F1.cell
  have zc := Z1.cell
  have zl1 := Z1.lt
  go_enter Try.func22, Try.ntmps22
  go_wp2_with (go_at_call 37; ((with_reducible refine (hw0 w1 x1).mono ?_); rintro e w4 ⟨C1, e1, f1, C2, e2, f2, rfl, O1, O2, hB4⟩); (obtain ⟨w5, hw5⟩ : ∃ w5, w4.alloc (.cells #[.int .u8 p.tos, .int .u16 p.id, .bool p.keep, .int .u8 p.ttl, .int .u8 47, .int .u32 p.src, .int .u32 p.dst, .slice C1 e1 f1, .slice C2 e2 f2] 26) = w5 := ⟨_, rfl⟩); have V5 : Below w4.heap.size w4 w5 := (by rw [← hw5]; (repeat (first | with_reducible exact Below.refl _ _ | with_reducible refine below_drew ?_ | with_reducible refine below_drewN ?_ _ | with_reducible refine below_alloc ?_ (Nat.le_refl _) _ | with_reducible refine Below.setCell ?_ (by first | exact Nat.le_refl _ | (simp only []; omega)) _ | with_reducible assumption))); have T5 := below_then hB4 V5; have P5 := P1.below T5; have F5 := F1.below T5; have Z5 := Z1.below T5; have zc5 := Z5.cell)
  obtain ⟨w6, hw6⟩ : ∃ w6, w5.alloc (.cells #[.int .u8 32, .int .u8 1, .int .u8 136, .int .u8 11] 5) = w6 := ⟨_, rfl⟩
  have OL := L4 w5
  have V6 : Below w5.heap.size w5 w6 := by rw [← hw6]; (repeat (first | with_reducible exact Below.refl _ _ | with_reducible refine below_drew ?_ | with_reducible refine below_drewN ?_ _ | with_reducible refine below_alloc ?_ (Nat.le_refl _) _ | with_reducible refine Below.setCell ?_ (by first | exact Nat.le_refl _ | (simp only []; omega)) _ | with_reducible assumption))
  rw [hw6] at OL ⊢
  have T6 := below_then T5 V6
  have F6 := F1.below T6
  have v6s := V6.size
  have v5s := T5.size
  have zl5 := Z5.lt
  clear hw6 hw5 zc5 pc mc zc hw1
  refine region_txt 10 (by kernel_rfl) (by kernel_rfl) ?_; (iterate 10 (first | (apply ObsK.skip (by rfl)) | (apply ObsK.v (by rfl); (intro wo hT; (repeat (first | (intro v hv; (fail)) | (intro _ _ k; try have hcv := cv k))); (have mc := (F6.below hT).cell; have hsz : w5.heap.size ≤ wo.heap.size := Nat.le_trans v6s hT.size); refine Goes.mk ?_; first | (exact goes_app _ _ rfl rfl (OL.below hT) rfl (by assumption) (by omega) hsz) | (go_simp; first | exact goes_v | exact goes_b (by assumption) | fail | (refine goes_enter ?_; first | (go_at_call 35; ((with_reducible refine (two_any z z0 z1 wo).mono ?_); rintro e w9 ⟨A9, c9, rfl, ho9, hB9⟩); exact ret_b ho9.bs hB9) | (go_at_call 35; ((with_reducible refine (two_any call ca0 ca1 wo).mono ?_); rintro e w9 ⟨A9, c9, rfl, ho9, hB9⟩); exact ret_b ho9.bs hB9))))) | (apply ObsK.b (by rfl); (intro wo hT; (repeat (first | (intro v hv; (fail)) | (intro _ _ k; try have hcv := cv k))); (have mc := (F6.below hT).cell; have hsz : w5.heap.size ≤ wo.heap.size := Nat.le_trans v6s hT.size); refine Goes.mk ?_; first | (exact goes_app _ _ rfl rfl (OL.below hT) rfl (by assumption) (by omega) hsz) | (go_simp; first | exact goes_v | exact goes_b (by assumption) | fail | (refine goes_enter ?_; first | (go_at_call 35; ((with_reducible refine (two_any z z0 z1 wo).mono ?_); rintro e w9 ⟨A9, c9, rfl, ho9, hB9⟩); exact ret_b ho9.bs hB9) | (go_at_call 35; ((with_reducible refine (two_any call ca0 ca1 wo).mono ?_); rintro e w9 ⟨A9, c9, rfl, ho9, hB9⟩); exact ret_b ho9.bs hB9))))) | (apply ObsK.p (q := isW w5.heap.size _) (by rfl) st_isW; (intro wo hT; (repeat (first | (intro v hv; (fail)) | (intro _ _ k; try have hcv := cv k))); (have mc := (F6.below hT).cell; have hsz : w5.heap.size ≤ wo.heap.size := Nat.le_trans v6s hT.size); refine Goes.mk ?_; first | (exact goes_app _ _ rfl rfl (OL.below hT) rfl (by assumption) (by omega) hsz) | (go_simp; first | exact goes_v | exact goes_b (by assumption) | fail | (refine goes_enter ?_; first | (go_at_call 35; ((with_reducible refine (two_any z z0 z1 wo).mono ?_); rintro e w9 ⟨A9, c9, rfl, ho9, hB9⟩); exact ret_b ho9.bs hB9) | (go_at_call 35; ((with_reducible refine (two_any call ca0 ca1 wo).mono ?_); rintro e w9 ⟨A9, c9, rfl, ho9, hB9⟩); exact ret_b ho9.bs hB9))))))); refine ObsK.nil ?_; intro wz hBz; simp only [finOn, List.drop_succ_cons, List.drop_zero, List.drop_nil]
  rintro A9 c9 k9 v7 ⟨A7, n7, c7, rfl, O7⟩ A8 c8 k8
  go_simp
  have u7 : n7 = 6 := by rw [← O7.len]; rfl
  subst u7
  have V7 := below_then V6 hBz
  have F7 := F1.below (below_then T5 V7)
  have mc7 := F7.cell
  clear k8
  go_wp2_with (first
    | (at_builtin; refine wpList_append_bs (w0 := w5) _ rfl _ _ _ rfl w5.heap.size 5 Try.underlying24 info_u8 A7 6 c7 _ rfl O7 A9 2 c9 (two call) rfl k9 V7 (by omega) (by first | exact Nat.le_refl _ | exact Below.size V7 | omega | (simp <;> omega)) ?_; intro A10 n10 c10 w10 ho10 hB10 _ hz10; have u10 : n10 = 8 := (by rw [← ho10.len]; rfl); subst u10; rw [H0.out] at ho10; (obtain ⟨g10, rfl, ge10, gt10⟩ := ho10.ptr (by omega)); have a10 := ho10.at_ (i := 0) (by omega); have a11 := ho10.at_ (i := 1) (by omega); have gk10 : k + 1 + 1 < g10 := (by omega); have F10 := F1.below (below_then T5 hB10); have mc10 := F10.cell; have pc10 := (P1.below (below_then T5 hB10)).cell; have zc10 := (Z1.below (below_then T5 hB10)).cell))
  have S12 : Own (w10.setCell ⟨g10, 0, none⟩ (.int .u8 48)) w5.heap.size 5 (some ⟨g10, 0, none⟩) 8 c10 (grB true false ++ two z ++ two call) := by
    have := ho10.set_ (i := 0) (by omega) 48 (y := 48) (by omega)
    exact this
  have B12 := hB10.setCell (p := ⟨g10, 0, none⟩) (by omega) (.int .u8 48)
  have M12 := (F1.below (below_then T5 B12)).cell
  have MP12 := (P1.below (below_then T5 B12)).cell
  obtain ⟨w12, hw12⟩ : ∃ w12, w10.setCell ⟨g10, 0, none⟩ (.int .u8 48) = w12 := ⟨_, rfl⟩
  rw [hw12] at S12 B12 M12 MP12 ⊢
  have bs12 := B12.size
  refine (four_any seq se0 se1 _).mono ?_
  rintro e w13 ⟨A13, c13, rfl, ho13, hB13⟩
  have S13 := S12.below hB13
  have B13 := below_then B12 hB13
  go_wp2_with (first
    | (at_builtin; refine wpList_append_bs (w0 := w5) _ rfl _ _ _ rfl w5.heap.size 5 Try.underlying24 info_u8 (some ⟨g10, 0, none⟩) 8 c10 _ rfl S13 A13 4 c13 (four seq) rfl ho13.bs B13 (by omega) (by first | exact Nat.le_refl _ | exact Below.size B13 | omega | (simp <;> omega)) ?_; intro A14 n14 c14 w14 ho14 hB14 _ hz14; have u14 : n14 = 12 := (by rw [← ho14.len]; rfl); subst u14; (obtain ⟨g14, rfl, ge14, gt14⟩ := ho14.ptr (by omega)); have a141 := ho14.at_ (i := 1) (by omega); have gk14 : k + 1 + 1 < g14 := (by omega); have F14 := F1.below (below_then T5 hB14); have mc14 := F14.cell; have pc14 := (P1.below (below_then T5 hB14)).cell; have zc14 := (Z1.below (below_then T5 hB14)).cell))
  have Tc := below_then T5 hB14
  have Pc := P1.below Tc
  have Fc := F1.below Tc
  have Zc := Z1.below Tc
  have pcc := Pc.cell
  have fcc := Fc.cell
  have zcc := Zc.cell
  have yc := y1.below Tc
  have xc := x1.below Tc
  have gtc := ho14.at_ (i := 0) (by omega)
  obtain ⟨wf, hwf, Sf⟩ := store9 Zc (.int .u8 0) (.int .u16 0) (.bool false) (.int .u8 0) (.int .u8 0) (.int .u32 0) (.int .u32 0) (.slice none 0 0) (.slice none 0 0)
  rw [hwf]
  have pf := Sf.blk.cell
  exact bodyPost_ret (by simp [results, Try.results22, go_sem, pf]) rfl (wiPost_no (Sf.bel (below_then R1 Tc) (by omega)))
theorem rbg_411 (p : Pkt) (A1 : Option Addr) (n1 c1 : Nat) (A2 : Option Addr) (n2 c2 : Nat) (call : Int) (seq ack : Int) (dat : List UInt8) (B1 : Option Addr) (m1 d1 : Nat) (w : World) (k1 : Bs w A1 n1 c1 p.opt) (j1 : Bs w B1 m1 d1 dat)
    (h : 40 < (n1 : Int) ∨ n1 % 4 ≠ 0) :
    Calls Try.prog 22 #[(.agg #[.int .u8 (p).tos, .int .u16 (p).id, .bool (p).keep, .int .u8 (p).ttl, .int .u8 (p).proto, .int .u32 (p).src, .int .u32 (p).dst, .slice A1 n1 c1, .slice A2 n2 c2]), .agg #[.int .u16 call, .bool true, .bool true, .int .u32 seq, .int .u32 ack, .slice B1 m1 d1]] w (WiPost w zP 4) := by
  have hw0 : ∀ W, Bs W A1 n1 c1 p.opt → Calls Try.prog 37 #[(.agg #[.int .u8 (p).tos, .int .u16 (p).id, .bool (p).keep, .int .u8 (p).ttl, .int .u8 (p).proto, .int .u32 (p).src, .int .u32 (p).dst, .slice A1 n1 c1, .slice A2 n2 c2]), .int .u8 47, .slice none 0 0] W (fun e w' => ∃ C1 e1 f1 C2 e2 f2, e = .returned (.tuple #[.agg #[.int .u8 0, .int .u16 0, .bool false, .int .u8 0, .int .u8 0, .int .u32 0, .int .u32 0, .slice C1 e1 f1, .slice C2 e2 f2], .int .i64 4]) ∧ Own w' W.heap.size 5 C1 e1 f1 [] ∧ Own w' W.heap.size 5 C2 e2 f2 [] ∧ Below W.heap.size W w') := fun W kk => by
    have hh := rwith_any p A1 n1 c1 A2 n2 c2 47 none 0 0 [] W kk (Bs.none_ W)
    unfold withP at hh
    rw [wiE_4 k1.len h, if_neg (by decide)] at hh
    exact hh.mono fun e w' hq => hq.out
  have b1 := j1.max
  obtain ⟨k, hk⟩ : ∃ k : Nat, w.heap.size = k := ⟨_, rfl⟩
  obtain ⟨w1, hw1⟩ : ∃ w1, ((w.alloc (.cells #[.int .u8 (p).tos, .int .u16 (p).id, .bool (p).keep, .int .u8 (p).ttl, .int .u8 (p).proto, .int .u32 (p).src, .int .u32 (p).dst, .slice A1 n1 c1, .slice A2 n2 c2] 26)).alloc (.cells #[.int .u16 call, .bool true, .bool true, .int .u32 seq, .int .u32 ack, .slice B1 m1 d1] 52)).alloc (.cells #[.int .u8 0, .int .u16 0, .bool false, .int .u8 0, .int .u8 0, .int .u32 0, .int .u32 0, .slice none 0 0, .slice none 0 0] 26) = w1 := ⟨_, rfl⟩
  have P1 : Blk w1 k #[.int .u8 (p).tos, .int .u16 (p).id, .bool (p).keep, .int .u8 (p).ttl, .int .u8 (p).proto, .int .u32 (p).src, .int .u32 (p).dst, .slice A1 n1 c1, .slice A2 n2 c2] 26 := by rw [← hw1]; exact ((blk_new w _ _ k hk).alloc _).alloc _
  have F1 : Blk w1 (k + 1) #[.int .u16 call, .bool true, .bool true, .int .u32 seq, .int .u32 ack, .slice B1 m1 d1] 52 := by rw [← hw1]; exact (blk_new _ _ _ (k + 1) (by simp [hk])).alloc _
  have Z1 : Blk w1 (k + 1 + 1) #[.int .u8 0, .int .u16 0, .bool false, .int .u8 0, .int .u8 0, .int .u32 0, .int .u32 0, .slice none 0 0, .slice none 0 0] 26 := by rw [← hw1]; exact blk_new _ _ _ (k + 1 + 1) (by simp [hk])
  have R1 : Below w.heap.size w w1 := by rw [← hw1]; (repeat (first | with_reducible exact Below.refl _ _ | with_reducible refine below_drew ?_ | with_reducible refine below_drewN ?_ _ | with_reducible refine below_alloc ?_ (Nat.le_refl _) _ | with_reducible refine Below.setCell ?_ (by first | exact Nat.le_refl _ | (simp only []; omega)) _ | with_reducible assumption))
  have x1 := k1.below R1
  have y1 := j1.below R1
  have pc := P1.cell
  have mc := F1.cell
  have zc := Z1.cell
  have zl1 := Z1.lt
  go_enter Try.func22, Try.ntmps22
  go_wp2_with (go_at_call 37; ((with_reducible refine (hw0 w1 x1).mono ?_); rintro e w4 ⟨C1, e1, f1, C2, e2, f2, rfl, O1, O2, hB4⟩); (obtain ⟨w5, hw5⟩ : ∃ w5, w4.alloc (.cells #[.int .u8 0, .int .u16 0, .bool false, .int .u8 0, .int .u8 0, .int .u32 0, .int .u32 0, .slice C1 e1 f1, .slice C2 e2 f2] 26) = w5 := ⟨_, rfl⟩); have V5 : Below w4.heap.size w4 w5 := (by rw [← hw5]; (repeat (first | with_reducible exact Below.refl _ _ | with_reducible refine below_drew ?_ | with_reducible refine below_drewN ?_ _ | with_reducible refine below_alloc ?_ (Nat.le_refl _) _ | with_reducible refine Below.setCell ?_ (by first | exact Nat.le_refl _ | (simp only []; omega)) _ | with_reducible assumption))); have T5 := below_then hB4 V5; have P5 := P1.below T5; have F5 := F1.below T5; have Z5 := Z1.below T5; have zc5 := Z5.cell)
  obtain ⟨wf, hwf, Sf⟩ := store9 Z5 (.int .u8 0) (.int .u16 0) (.bool false) (.int .u8 0) (.int .u8 0) (.int .u32 0) (.int .u32 0) (.slice none 0 0) (.slice none 0 0)
  rw [hwf]
  have pf := Sf.blk.cell
  exact bodyPost_ret (by simp [results, Try.results22, go_sem, pf]) rfl (wiPost_no (Sf.bel (below_then R1 T5) (by omega)))
theorem rbg_ok11 (p : Pkt) (A1 : Option Addr) (n1 c1 : Nat) (A2 : Option Addr) (n2 c2 : Nat) (call : Int) (seq ack : Int) (dat : List UInt8) (B1 : Option Addr) (m1 d1 : Nat) (w : World) (k1 : Bs w A1 n1 c1 p.opt) (j1 : Bs w B1 m1 d1 dat)
    (hca : 0 ≤ call ∧ call ≤ 65535) (hse : 0 ≤ seq ∧ seq ≤ 4294967295) (hak : 0 ≤ ack ∧ ack ≤ 4294967295) (h1 : (n1 : Int) ≤ 40) (h2 : n1 % 4 = 0) (Q : Pkt) (E : Int) (h3 : 20 + (n1 : Int) + 16 + m1 ≤ 65535) (hok : ∀ W A n c, Bs W A1 n1 c1 p.opt → Bs W A n c ((((grB true true ++ two ((m1 : Int) % 65536) ++ two call) ++ four seq) ++ four ack) ++ dat) → Calls Try.prog 37 #[(.agg #[.int .u8 (p).tos, .int .u16 (p).id, .bool (p).keep, .int .u8 (p).ttl, .int .u8 (p).proto, .int .u32 (p).src, .int .u32 (p).dst, .slice A1 n1 c1, .slice A2 n2 c2]), .int .u8 47, .slice A n c] W (WiPost W Q E)) :
    Calls Try.prog 22 #[(.agg #[.int .u8 (p).tos, .int .u16 (p).id, .bool (p).keep, .int .u8 (p).ttl, .int .u8 (p).proto, .int .u32 (p).src, .int .u32 (p).dst, .slice A1 n1 c1, .slice A2 n2 c2]), .agg #[.int .u16 call, .bool true, .bool true, .int .u32 seq, .int .u32 ack, .slice B1 m1 d1]] w (WiPost w Q E) := by
  have hw0 : ∀ W, Bs W A1 n1 c1 p.opt → Calls Try.prog 37 #[(.agg #[.int .u8 (p).tos, .int .u16 (p).id, .bool (p).keep, .int .u8 (p).ttl, .int .u8 (p).proto, .int .u32 (p).src, .int .u32 (p).dst, .slice A1 n1 c1, .slice A2 n2 c2]), .int .u8 47, .slice none 0 0] W (fun e w' => ∃ C1 e1 f1 C2 e2 f2, e = .returned (.tuple #[.agg #[.int .u8 p.tos, .int .u16 p.id, .bool p.keep, .int .u8 p.ttl, .int .u8 47, .int .u32 p.src, .int .u32 p.dst, .slice C1 e1 f1, .slice C2 e2 f2], .int .i64 0]) ∧ Own w' W.heap.size 5 C1 e1 f1 p.opt ∧ Own w' W.heap.size 5 C2 e2 f2 [] ∧ Below W.heap.size W w') := fun W kk => by
    have hh := rwith_any p A1 n1 c1 A2 n2 c2 47 none 0 0 [] W kk (Bs.none_ W)
    unfold withP at hh
    rw [show ([] : List UInt8).length = 0 from rfl, wiE_0 k1.len h1 h2 (by omega), if_pos rfl] at hh
    exact hh.mono fun e w' hq => hq.out
  have b1 := j1.max
  obtain ⟨ca0, ca1⟩ := hca
  obtain ⟨se0, se1⟩ := hse
  obtain ⟨ak0, ak1⟩ := hak
  obtain ⟨z, hz⟩ : ∃ z : Int, (m1 : Int) % 65536 = z := ⟨_, rfl⟩
  have z0 : 0 ≤ z := by omega
  have z1 : z ≤ 65535 := by omega
  have hzw : IntKind.u16.wrap (m1 : Int) = z := by rw [← hz]; simp [IntKind.wrap, IntKind.signed, IntKind.bits]
  rw [hz] at hok
  have L4 := fun W => lit4 (e := 5) (x := 32) (y := 1) (z := 136) (u := 11) (by omega) (by omega) (by omega) (by omega) (by omega) (by omega) (by omega) (by omega) W
  have H0 : Hid ([ub 32, ub 1, ub 136, ub 11] ++ two z ++ two call = grB false false ++ two z ++ two call) := rfl
  obtain ⟨k, hk⟩ : ∃ k : Nat, w.heap.size = k := ⟨_, rfl⟩
  obtain ⟨w1, hw1⟩ : ∃ w1, ((w.alloc (.cells #[.int .u8 (p).tos, .int .u16 (p).id, .bool (p).keep, .int .u8 (p).ttl, .int .u8 (p).proto, .int .u32 (p).src, .int .u32 (p).dst, .slice A1 n1 c1, .slice A2 n2 c2] 26)).alloc (.cells #[.int .u16 call, .bool true, .bool true, .int .u32 seq, .int .u32 ack, .slice B1 m1 d1] 52)).alloc (.cells #[.int .u8 0, .int .u16 0, .bool false, .int .u8 0, .int .u8 0, .int .u32 0, .int .u32 0, .slice none 0 0, .slice none 0 0] 26) = w1 := ⟨_, rfl⟩
  have P1 : Blk w1 k #[.int .u8 (p).tos, .int .u16 (p).id, .bool (p).keep, .int .u8 (p).ttl, .int .u8 (p).proto, .int .u32 (p).src, .int .u32 (p).dst, .slice A1 n1 c1, .slice A2 n2 c2] 26 := by rw [← hw1]; exact ((blk_new w _ _ k hk).alloc _).alloc _
  have F1 : Blk w1 (k + 1) #[.int .u16 call, .bool true, .bool true, .int .u32 seq, .int .u32 ack, .slice B1 m1 d1] 52 := by rw [← hw1]; exact (blk_new _ _ _ (k + 1) (by simp [hk])).alloc _
  have Z1 : Blk w1 (k + 1 + 1) #[.int .u8 0, .int .u16 0, .bool false, .int .u8 0, .int .u8 0, .int .u32 0, .int .u32 0, .slice none 0 0, .slice none 0 0] 26 := by rw [← hw1]; exact blk_new _ _ _ (k + 1 + 1) (by simp [hk])
  have R1 : Below w.heap.size w w1 := by rw [← hw1]; (repeat (first | with_reducible exact Below.refl _ _ | with_reducible refine below_drew ?_ | with_reducible refine below_drewN ?_ _ | with_reducible refine below_alloc ?_ (Nat.le_refl _) _ | with_reducible refine Below.setCell ?_ (by first | exact Nat.le_refl _ | (simp only []; omega)) _ | with_reducible assumption))
  have x1 := k1.below R1
  have y1 := j1.below R1
  have pc := P1.cell
  have mc := F1.cell
  have zc := Z1.cell
  have zl1 := Z1.lt
  go_enter Try.func22, Try.ntmps22
  go_wp2_with (go_at_call 37; ((with_reducible refine (hw0 w1 x1).mono ?_); rintro e w4 ⟨C1, e1, f1, C2, e2, f2, rfl, O1, O2, hB4⟩); (obtain ⟨w5, hw5⟩ : ∃ w5, w4.alloc (.cells #[.int .u8 p.tos, .int .u16 p.id, .bool p.keep, .int .u8 p.ttl, .int .u8 47, .int .u32 p.src, .int .u32 p.dst, .slice C1 e1 f1, .slice C2 e2 f2] 26) = w5 := ⟨_, rfl⟩); have V5 : Below w4.heap.size w4 w5 := (by rw [← hw5]; (repeat (first | with_reducible exact Below.refl _ _ | with_reducible refine below_drew ?_ | with_reducible refine below_drewN ?_ _ | with_reducible refine below_alloc ?_ (Nat.le_refl _) _ | with_reducible refine Below.setCell ?_ (by first | exact Nat.le_refl _ | (simp only []; omega)) _ | with_reducible assumption))); have T5 := below_then hB4 V5; have P5 := P1.below T5; have F5 := F1.below T5; have Z5 := Z1.below T5; have zc5 := Z5.cell)
  obtain ⟨w6, hw6⟩ : ∃ w6, w5.alloc (.cells #[.int .u8 32, .int .u8 1, .int .u8 136, .int .u8 11] 5) = w6 := ⟨_, rfl⟩
  have OL := L4 w5
  have V6 : Below w5.heap.size w5 w6 := by rw [← hw6]; (repeat (first | with_reducible exact Below.refl _ _ | with_reducible refine below_drew ?_ | with_reducible refine below_drewN ?_ _ | with_reducible refine below_alloc ?_ (Nat.le_refl _) _ | with_reducible refine Below.setCell ?_ (by first | exact Nat.le_refl _ | (simp only []; omega)) _ | with_reducible assumption))
  rw [hw6] at OL ⊢
  have T6 := below_then T5 V6
  have F6 := F1.below T6
  have v6s := V6.size
  have v5s := T5.size
  have zl5 := Z5.lt
  clear hw6 hw5 zc5 pc mc zc hw1
  refine region_txt 10 (by kernel_rfl) (by kernel_rfl) ?_; (iterate 10 (first | (apply ObsK.skip (by rfl)) | (apply ObsK.v (by rfl); (intro wo hT; (repeat (first | (intro v hv; (fail)) | (intro _ _ k; try have hcv := cv k))); (have mc := (F6.below hT).cell; have hsz : w5.heap.size ≤ wo.heap.size := Nat.le_trans v6s hT.size); refine Goes.mk ?_; first | (exact goes_app _ _ rfl rfl (OL.below hT) rfl (by assumption) (by omega) hsz) | (go_simp; first | exact goes_v | exact goes_b (by assumption) | fail | (refine goes_enter ?_; first | (go_at_call 35; ((with_reducible refine (two_any z z0 z1 wo).mono ?_); rintro e w9 ⟨A9, c9, rfl, ho9, hB9⟩); exact ret_b ho9.bs hB9) | (go_at_call 35; ((with_reducible refine (two_any call ca0 ca1 wo).mono ?_); rintro e w9 ⟨A9, c9, rfl, ho9, hB9⟩); exact ret_b ho9.bs hB9))))) | (apply ObsK.b (by rfl); (intro wo hT; (repeat (first | (intro v hv; (fail)) | (intro _ _ k; try have hcv := cv k))); (have mc := (F6.below hT).cell; have hsz : w5.heap.size ≤ wo.heap.size := Nat.le_trans v6s hT.size); refine Goes.mk ?_; first | (exact goes_app _ _ rfl rfl (OL.below hT) rfl (by assumption) (by omega) hsz) | (go_simp; first | exact goes_v | exact goes_b (by assumption) | fail | (refine goes_enter ?_; first | (go_at_call 35; ((with_reducible refine (two_any z z0 z1 wo).mono ?_); rintro e w9 ⟨A9, c9, rfl, ho9, hB9⟩); exact ret_b ho9.bs hB9) | (go_at_call 35; ((with_reducible refine (two_any call ca0 ca1 wo).mono ?_); rintro e w9 ⟨A9, c9, rfl, ho9, hB9⟩); exact ret_b ho9.bs hB9))))) | (apply ObsK.p (q := isW w5.heap.size _) (by rfl) st_isW; (intro wo hT; (repeat (first | (intro v hv; (fail)) | (intro _ _ k; try have hcv := cv k))); (have mc := (F6.below hT).cell; have hsz : w5.heap.size ≤ wo.heap.size := Nat.le_trans v6s hT.size); refine Goes.mk ?_; first | (exact goes_app _ _ rfl rfl (OL.below hT) rfl (by assumption) (by omega) hsz) | (go_simp; first | exact goes_v | exact goes_b (by assumption) | fail | (refine goes_enter ?_; first | (go_at_call 35; ((with_reducible refine (two_any z z0 z1 wo).mono ?_); rintro e w9 ⟨A9, c9, rfl, ho9, hB9⟩); exact ret_b ho9.bs hB9) | (go_at_call 35; ((with_reducible refine (two_any call ca0 ca1 wo).mono ?_); rintro e w9 ⟨A9, c9, rfl, ho9, hB9⟩); exact ret_b ho9.bs hB9))))))); refine ObsK.nil ?_; intro wz hBz; simp only [finOn, List.drop_succ_cons, List.drop_zero, List.drop_nil]
  rintro A9 c9 k9 v7 ⟨A7, n7, c7, rfl, O7⟩ A8 c8 k8
  go_simp
  have u7 : n7 = 6 := by rw [← O7.len]; rfl
  subst u7
  have V7 := below_then V6 hBz
  have F7 := F1.below (below_then T5 V7)
  have mc7 := F7.cell
  clear k8
  go_wp2_with (first
    | (at_builtin; refine wpList_append_bs (w0 := w5) _ rfl _ _ _ rfl w5.heap.size 5 Try.underlying24 info_u8 A7 6 c7 _ rfl O7 A9 2 c9 (two call) rfl k9 V7 (by omega) (by first | exact Nat.le_refl _ | exact Below.size V7 | omega | (simp <;> omega)) ?_; intro A10 n10 c10 w10 ho10 hB10 _ hz10; have u10 : n10 = 8 := (by rw [← ho10.len]; rfl); subst u10; rw [H0.out] at ho10; (obtain ⟨g10, rfl, ge10, gt10⟩ := ho10.ptr (by omega)); have a10 := ho10.at_ (i := 0) (by omega); have a11 := ho10.at_ (i := 1) (by omega); have gk10 : k + 1 + 1 < g10 := (by omega); have F10 := F1.below (below_then T5 hB10); have mc10 := F10.cell; have pc10 := (P1.below (below_then T5 hB10)).cell; have zc10 := (Z1.below (below_then T5 hB10)).cell))
  have S12 : Own (w10.setCell ⟨g10, 0, none⟩ (.int .u8 48)) w5.heap.size 5 (some ⟨g10, 0, none⟩) 8 c10 (grB true false ++ two z ++ two call) := by
    have := ho10.set_ (i := 0) (by omega) 48 (y := 48) (by omega)
    exact this
  have B12 := hB10.setCell (p := ⟨g10, 0, none⟩) (by omega) (.int .u8 48)
  have M12 := (F1.below (below_then T5 B12)).cell
  have MP12 := (P1.below (below_then T5 B12)).cell
  obtain ⟨w12, hw12⟩ : ∃ w12, w10.setCell ⟨g10, 0, none⟩ (.int .u8 48) = w12 := ⟨_, rfl⟩
  rw [hw12] at S12 B12 M12 MP12 ⊢
  have bs12 := B12.size
  refine (four_any seq se0 se1 _).mono ?_
  rintro e w13 ⟨A13, c13, rfl, ho13, hB13⟩
  have S13 := S12.below hB13
  have B13 := below_then B12 hB13
  go_wp2_with (first
    | (at_builtin; refine wpList_append_bs (w0 := w5) _ rfl _ _ _ rfl w5.heap.size 5 Try.underlying24 info_u8 (some ⟨g10, 0, none⟩) 8 c10 _ rfl S13 A13 4 c13 (four seq) rfl ho13.bs B13 (by omega) (by first | exact Nat.le_refl _ | exact Below.size B13 | omega | (simp <;> omega)) ?_; intro A14 n14 c14 w14 ho14 hB14 _ hz14; have u14 : n14 = 12 := (by rw [← ho14.len]; rfl); subst u14; (obtain ⟨g14, rfl, ge14, gt14⟩ := ho14.ptr (by omega)); have a141 := ho14.at_ (i := 1) (by omega); have gk14 : k + 1 + 1 < g14 := (by omega); have F14 := F1.below (below_then T5 hB14); have mc14 := F14.cell; have pc14 := (P1.below (below_then T5 hB14)).cell; have zc14 := (Z1.below (below_then T5 hB14)).cell))
  have S16 : Own (w14.setCell ⟨g14, 1, none⟩ (.int .u8 129)) w5.heap.size 5 (some ⟨g14, 0, none⟩) 12 c14 ((grB true true ++ two z ++ two call) ++ four seq) := by
    have := ho14.set_ (i := 1) (by omega) 129 (y := 129) (by omega)
    exact this
  have B16 := hB14.setCell (p := ⟨g14, 1, none⟩) (by omega) (.int .u8 129)
  have M16 := (F1.below (below_then T5 B16)).cell
  have MP16 := (P1.below (below_then T5 B16)).cell
  obtain ⟨w16, hw16⟩ : ∃ w16, w14.setCell ⟨g14, 1, none⟩ (.int .u8 129) = w16 := ⟨_, rfl⟩
  rw [hw16] at S16 B16 M16 MP16 ⊢
  have bs16 := B16.size
  refine (four_any ack ak0 ak1 _).mono ?_
  rintro e w17 ⟨A17, c17, rfl, ho17, hB17⟩
  have S17 := S16.below hB17
  have B17 := below_then B16 hB17
  go_wp2_with (first
    | (at_builtin; refine wpList_append_bs (w0 := w5) _ rfl _ _ _ rfl w5.heap.size 5 Try.underlying24 info_u8 (some ⟨g14, 0, none⟩) 12 c14 _ rfl S17 A17 4 c17 (four ack) rfl ho17.bs B17 (by omega) (by first | exact Nat.le_refl _ | exact Below.size B17 | omega | (simp <;> omega)) ?_; intro A18 n18 c18 w18 ho18 hB18 _ hz18; have u18 : n18 = 16 := (by rw [← ho18.len]; rfl); subst u18; (obtain ⟨g18, rfl, ge18, gt18⟩ := ho18.ptr (by omega)); have a181 := ho18.at_ (i := 1) (by omega); have gk18 : k + 1 + 1 < g18 := (by omega); have F18 := F1.below (below_then T5 hB18); have mc18 := F18.cell; have pc18 := (P1.below (below_then T5 hB18)).cell; have zc18 := (Z1.below (below_then T5 hB18)).cell))
  have Tc := below_then T5 hB18
  have Pc := P1.below Tc
  have Fc := F1.below Tc
  have Zc := Z1.below Tc
  have pcc := Pc.cell
  have fcc := Fc.cell
  have zcc := Zc.cell
  have yc := y1.below Tc
  have xc := x1.below Tc
  have gtc := ho18.at_ (i := 0) (by omega)
  have hw1' := hok
  clear hok
  refine regionX 8 [4] g18 (fun c W => match c with | 0 => Own W w5.heap.size 5 (some ⟨g18, 0, none⟩) 16 c18 (((grB true true ++ two z ++ two call) ++ four seq) ++ four ack) | _ + 1 => True) (by kernel_rfl) (by kernel_rfl) (by kernel_rfl) ho18 (fun c W W' hj hb => by cases c with | zero => exact Own.below hj hb | succ n => trivial) ?_; (iterate 8 (first | (apply ObsX.skip (by rfl) (by rfl)) | (apply ObsX.v (by rfl) (by rfl); (intro wo hE; (repeat (first | (intro v hv; ((first | (obtain ⟨Ap, np, cp, rfl, op⟩ := hv; have obp := op.bs) | (obtain ⟨D1, g1, h1', D2, g2, h2', rfl, o13, o14⟩ := hv)))) | (intro _ _ k; try have hcv := cv k))); (have pco := (Pc.ext hE (by omega)).cell; have mco := (Fc.ext hE (by omega)).cell; have xo := x1.below (below_ext Tc hE (by omega) Tc.size); have yo := y1.below (below_ext Tc hE (by omega) Tc.size); have hsz := hE.size); refine Goes.mk ?_; first | (exact goes_appX _ _ rfl rfl hj (fun k e => by simp [Value.ownBlock] at e; exact e.symm) rfl yo (by omega) (by omega) (fun _ => trivial)) | (go_simp; first | exact goes_v | exact goes_pk (by assumption) (by assumption) | (refine goes_enter ?_; first | (go_at_call 37; ((with_reducible refine (hw1' wo Ap np cp xo obp).mono ?_); rintro e w12 ⟨⟨D1, g1, h1', D2, g2, h2', rfl, O13, O14, hB12⟩⟩); exact ret_tup (O13.mono hsz) (O14.mono hsz) hB12))))) | (apply ObsX.p (q := isTup w18.heap.size Q E) (by rfl) (by rfl) st_isTup (sx_isTup (by omega)); (intro wo hE; (repeat (first | (intro v hv; ((first | (obtain ⟨Ap, np, cp, rfl, op⟩ := hv; have obp := op.bs) | (obtain ⟨D1, g1, h1', D2, g2, h2', rfl, o13, o14⟩ := hv)))) | (intro _ _ k; try have hcv := cv k))); (have pco := (Pc.ext hE (by omega)).cell; have mco := (Fc.ext hE (by omega)).cell; have xo := x1.below (below_ext Tc hE (by omega) Tc.size); have yo := y1.below (below_ext Tc hE (by omega) Tc.size); have hsz := hE.size); refine Goes.mk ?_; first | (exact goes_appX _ _ rfl rfl hj (fun k e => by simp [Value.ownBlock] at e; exact e.symm) rfl yo (by omega) (by omega) (fun _ => trivial)) | (go_simp; first | exact goes_v | exact goes_pk (by assumption) (by assumption) | (refine goes_enter ?_; first | (go_at_call 37; ((with_reducible refine (hw1' wo Ap np cp xo obp).mono ?_); rintro e w12 ⟨⟨D1, g1, h1', D2, g2, h2', rfl, O13, O14, hB12⟩⟩); exact ret_tup (O13.mono hsz) (O14.mono hsz) hB12))))) | (apply ObsX.p (q := isPk w18.heap.size Q) (by rfl) (by rfl) st_isPk (sx_isPk (by omega)); (intro wo hE; (repeat (first | (intro v hv; ((first | (obtain ⟨Ap, np, cp, rfl, op⟩ := hv; have obp := op.bs) | (obtain ⟨D1, g1, h1', D2, g2, h2', rfl, o13, o14⟩ := hv)))) | (intro _ _ k; try have hcv := cv k))); (have pco := (Pc.ext hE (by omega)).cell; have mco := (Fc.ext hE (by omega)).cell; have xo := x1.below (below_ext Tc hE (by omega) Tc.size); have yo := y1.below (below_ext Tc hE (by omega) Tc.size); have hsz := hE.size); refine Goes.mk ?_; first | (exact goes_appX _ _ rfl rfl hj (fun k e => by simp [Value.ownBlock] at e; exact e.symm) rfl yo (by omega) (by omega) (fun _ => trivial)) | (go_simp; first | exact goes_v | exact goes_pk (by assumption) (by assumption) | (refine goes_enter ?_; first | (go_at_call 37; ((with_reducible refine (hw1' wo Ap np cp xo obp).mono ?_); rintro e w12 ⟨⟨D1, g1, h1', D2, g2, h2', rfl, O13, O14, hB12⟩⟩); exact ret_tup (O13.mono hsz) (O14.mono hsz) hB12))))) | (apply ObsX.ev (by rfl) (by rfl); (intro wo hE hj; (repeat (first | (intro v hv; ((first | (obtain ⟨Ap, np, cp, rfl, op⟩ := hv; have obp := op.bs) | (obtain ⟨D1, g1, h1', D2, g2, h2', rfl, o13, o14⟩ := hv)))) | (intro _ _ k; try have hcv := cv k))); (have pco := (Pc.ext hE (by omega)).cell; have mco := (Fc.ext hE (by omega)).cell; have xo := x1.below (below_ext Tc hE (by omega) Tc.size); have yo := y1.below (below_ext Tc hE (by omega) Tc.size); have hsz := hE.size); refine GoesX.mk ?_; first | (exact goes_appX _ _ rfl rfl hj (fun k e => by simp [Value.ownBlock] at e; exact e.symm) rfl yo (by omega) (by omega) (fun _ => trivial)) | (go_simp; first | exact goes_v | exact goes_pk (by assumption) (by assumption) | (refine goes_enter ?_; first | (go_at_call 37; ((with_reducible refine (hw1' wo Ap np cp xo obp).mono ?_); rintro e w12 ⟨⟨D1, g1, h1', D2, g2, h2', rfl, O13, O14, hB12⟩⟩); exact ret_tup (O13.mono hsz) (O14.mono hsz) hB12))))) | (apply ObsX.ep (q := isTup w18.heap.size Q E) (by rfl) (by rfl) (by rfl) st_isTup; (intro wo hE hj; (repeat (first | (intro v hv; ((first | (obtain ⟨Ap, np, cp, rfl, op⟩ := hv; have obp := op.bs) | (obtain ⟨D1, g1, h1', D2, g2, h2', rfl, o13, o14⟩ := hv)))) | (intro _ _ k; try have hcv := cv k))); (have pco := (Pc.ext hE (by omega)).cell; have mco := (Fc.ext hE (by omega)).cell; have xo := x1.below (below_ext Tc hE (by omega) Tc.size); have yo := y1.below (below_ext Tc hE (by omega) Tc.size); have hsz := hE.size); refine GoesX.mk ?_; first | (exact goes_appX _ _ rfl rfl hj (fun k e => by simp [Value.ownBlock] at e; exact e.symm) rfl yo (by omega) (by omega) (fun _ => trivial)) | (go_simp; first | exact goes_v | exact goes_pk (by assumption) (by assumption) | (refine goes_enter ?_; first | (go_at_call 37; ((with_reducible refine (hw1' wo Ap np cp xo obp).mono ?_); rintro e w12 ⟨⟨D1, g1, h1', D2, g2, h2', rfl, O13, O14, hB12⟩⟩); exact ret_tup (O13.mono hsz) (O14.mono hsz) hB12))))) | (apply ObsX.ep (q := isPk w18.heap.size Q) (by rfl) (by rfl) (by rfl) st_isPk; (intro wo hE hj; (repeat (first | (intro v hv; ((first | (obtain ⟨Ap, np, cp, rfl, op⟩ := hv; have obp := op.bs) | (obtain ⟨D1, g1, h1', D2, g2, h2', rfl, o13, o14⟩ := hv)))) | (intro _ _ k; try have hcv := cv k))); (have pco := (Pc.ext hE (by omega)).cell; have mco := (Fc.ext hE (by omega)).cell; have xo := x1.below (below_ext Tc hE (by omega) Tc.size); have yo := y1.below (below_ext Tc hE (by omega) Tc.size); have hsz := hE.size); refine GoesX.mk ?_; first | (exact goes_appX _ _ rfl rfl hj (fun k e => by simp [Value.ownBlock] at e; exact e.symm) rfl yo (by omega) (by omega) (fun _ => trivial)) | (go_simp; first | exact goes_v | exact goes_pk (by assumption) (by assumption) | (refine goes_enter ?_; first | (go_at_call 37; ((with_reducible refine (hw1' wo Ap np cp xo obp).mono ?_); rintro e w12 ⟨⟨D1, g1, h1', D2, g2, h2', rfl, O13, O14, hB12⟩⟩); exact ret_tup (O13.mono hsz) (O14.mono hsz) hB12))))) | (apply ObsX.ep (q := isW w5.heap.size _) (by rfl) (by rfl) (by rfl) st_isW; (intro wo hE hj; (repeat (first | (intro v hv; ((first | (obtain ⟨Ap, np, cp, rfl, op⟩ := hv; have obp := op.bs) | (obtain ⟨D1, g1, h1', D2, g2, h2', rfl, o13, o14⟩ := hv)))) | (intro _ _ k; try have hcv := cv k))); (have pco := (Pc.ext hE (by omega)).cell; have mco := (Fc.ext hE (by omega)).cell; have xo := x1.below (below_ext Tc hE (by omega) Tc.size); have yo := y1.below (below_ext Tc hE (by omega) Tc.size); have hsz := hE.size); refine GoesX.mk ?_; first | (exact goes_appX _ _ rfl rfl hj (fun k e => by simp [Value.ownBlock] at e; exact e.symm) rfl yo (by omega) (by omega) (fun _ => trivial)) | (go_simp; first | exact goes_v | exact goes_pk (by assumption) (by assumption) | (refine goes_enter ?_; first | (go_at_call 37; ((with_reducible refine (hw1' wo Ap np cp xo obp).mono ?_); rintro e w12 ⟨⟨D1, g1, h1', D2, g2, h2', rfl, O13, O14, hB12⟩⟩); exact ret_tup (O13.mono hsz) (O14.mono hsz) hB12))))))); refine ObsX.nil ?_; intro wz hEz hJz; simp only [finOn, List.drop_succ_cons, List.drop_zero, List.drop_nil]
  rintro v12 ⟨D1, g1, h1', D2, g2, h2', rfl, O13, O14⟩ v13 hv13 v14 hv14
  clear hv13 hv14
  go_simp
  have Zz := Zc.ext hEz (by omega)
  have zcz := Zz.cell
  have Tz := below_ext Tc hEz (by omega) Tc.size
  have r1s := R1.size
  go_wp2_with fail
  obtain ⟨wf, hwf, Sf⟩ := store9 Zz (.int .u8 Q.tos) (.int .u16 Q.id) (.bool Q.keep) (.int .u8 Q.ttl) (.int .u8 Q.proto) (.int .u32 Q.src) (.int .u32 Q.dst) (.slice D1 g1 h1') (.slice D2 g2 h2')
  rw [hwf]
  have pf := Sf.blk.cell
  have Of := Sf.own O13 (fun a e => by have := O13.ge a e; omega)
  have Df := Sf.own O14 (fun a e => by have := O14.ge a e; omega)
  have tcs := Tc.size
  refine bodyPost_ret (v := .tuple #[(.agg #[.int .u8 (Q).tos, .int .u16 (Q).id, .bool (Q).keep, .int .u8 (Q).ttl, .int .u8 (Q).proto, .int .u32 (Q).src, .int .u32 (Q).dst, .slice D1 g1 h1', .slice D2 g2 h2']), .int .i64 E]) (by simp [results, Try.results22, go_sem, pf]) rfl ⟨⟨D1, g1, h1', D2, g2, h2', rfl, Of.mono (by omega), Df.mono (by omega), Sf.bel (below_then R1 Tz) (by omega)⟩⟩
theorem rbg_long11 (p : Pkt) (A1 : Option Addr) (n1 c1 : Nat) (A2 : Option Addr) (n2 c2 : Nat) (call : Int) (seq ack : Int) (dat : List UInt8) (B1 : Option Addr) (m1 d1 : Nat) (w : World) (k1 : Bs w A1 n1 c1 p.opt) (j1 : Bs w B1 m1 d1 dat)
    (hca : 0 ≤ call ∧ call ≤ 65535) (hse : 0 ≤ seq ∧ seq ≤ 4294967295) (hak : 0 ≤ ack ∧ ack ≤ 4294967295) (h1 : (n1 : Int) ≤ 40) (h2 : n1 % 4 = 0) (Q : Pkt) (E : Int) (h3 : 65535 < 20 + (n1 : Int) + 16 + m1) (hQ : Q = zP) (hE8 : E = 8) :
    Calls Try.prog 22 #[(.agg #[.int .u8 (p).tos, .int .u16 (p).id, .bool (p).keep, .int .u8 (p).ttl, .int .u8 (p).proto, .int .u32 (p).src, .int .u32 (p).dst, .slice A1 n1 c1, .slice A2 n2 c2]), .agg #[.int .u16 call, .bool true, .bool true, .int .u32 seq, .int .u32 ack, .slice B1 m1 d1]] w (WiPost w Q E) := by
  have hw0 : ∀ W, Bs W A1 n1 c1 p.opt → Calls Try.prog 37 #[(.agg #[.int .u8 (p).tos, .int .u16 (p).id, .bool (p).keep, .int .u8 (p).ttl, .int .u8 (p).proto, .int .u32 (p).src, .int .u32 (p).dst, .slice A1 n1 c1, .slice A2 n2 c2]), .int .u8 47, .slice none 0 0] W (fun e w' => ∃ C1 e1 f1 C2 e2 f2, e = .returned (.tuple #[.agg #[.int .u8 p.tos, .int .u16 p.id, .bool p.keep, .int .u8 p.ttl, .int .u8 47, .int .u32 p.src, .int .u32 p.dst, .slice C1 e1 f1, .slice C2 e2 f2], .int .i64 0]) ∧ Own w' W.heap.size 5 C1 e1 f1 p.opt ∧ Own w' W.heap.size 5 C2 e2 f2 [] ∧ Below W.heap.size W w') := fun W kk => by
    have hh := rwith_any p A1 n1 c1 A2 n2 c2 47 none 0 0 [] W kk (Bs.none_ W)
    unfold withP at hh
    rw [show ([] : List UInt8).length = 0 from rfl, wiE_0 k1.len h1 h2 (by omega), if_pos rfl] at hh
    exact hh.mono fun e w' hq => hq.out
  have b1 := j1.max
  obtain ⟨ca0, ca1⟩ := hca
  obtain ⟨se0, se1⟩ := hse
  obtain ⟨ak0, ak1⟩ := hak
  obtain ⟨z, hz⟩ : ∃ z : Int, (m1 : Int) % 65536 = z := ⟨_, rfl⟩
  have z0 : 0 ≤ z := by omega
  have z1 : z ≤ 65535 := by omega
  have hzw : IntKind.u16.wrap (m1 : Int) = z := by rw [← hz]; simp [IntKind.wrap, IntKind.signed, IntKind.bits]
  subst hQ hE8
  have L4 := fun W => lit4 (e := 5) (x := 32) (y := 1) (z := 136) (u := 11) (by omega) (by omega) (by omega) (by omega) (by omega) (by omega) (by omega) (by omega) W
  have H0 : Hid ([ub 32, ub 1, ub 136, ub 11] ++ two z ++ two call = grB false false ++ two z ++ two call) := rfl
  obtain ⟨k, hk⟩ : ∃ k : Nat, w.heap.size = k := ⟨_, rfl⟩
  obtain ⟨w1, hw1⟩ : ∃ w1, ((w.alloc (.cells #[.int .u8 (p).tos, .int .u16 (p).id, .bool (p).keep, .int .u8 (p).ttl, .int .u8 (p).proto, .int .u32 (p).src, .int .u32 (p).dst, .slice A1 n1 c1, .slice A2 n2 c2] 26)).alloc (.cells #[.int .u16 call, .bool true, .bool true, .int .u32 seq, .int .u32 ack, .slice B1 m1 d1] 52)).alloc (.cells #[.int .u8 0, .int .u16 0, .bool false, .int .u8 0, .int .u8 0, .int .u32 0, .int .u32 0, .slice none 0 0, .slice none 0 0] 26) = w1 := ⟨_, rfl⟩
  have P1 : Blk w1 k #[.int .u8 (p).tos, .int .u16 (p).id, .bool (p).keep, .int .u8 (p).ttl, .int .u8 (p).proto, .int .u32 (p).src, .int .u32 (p).dst, .slice A1 n1 c1, .slice A2 n2 c2] 26 := by rw [← hw1]; exact ((blk_new w _ _ k hk).alloc _).alloc _
  have F1 : Blk w1 (k + 1) #[.int .u16 call, .bool true, .bool true, .int .u32 seq, .int .u32 ack, .slice B1 m1 d1] 52 := by rw [← hw1]; exact (blk_new _ _ _ (k + 1) (by simp [hk])).alloc _
  have Z1 : Blk w1 (k + 1 + 1) #[.int .u8 0, .int .u16 0, .bool false, .int .u8 0, .int .u8 0, .int .u32 0, .int .u32 0, .slice none 0 0, .slice none 0 0] 26 := by rw [← hw1]; exact blk_new _ _ _ (k + 1 + 1) (by simp [hk])
  have R1 : Below w.heap.size w w1 := by rw [← hw1]; (repeat (first | with_reducible exact Below.refl _ _ | with_reducible refine below_drew ?_ | with_reducible refine below_drewN ?_ _ | with_reducible refine below_alloc ?_ (Nat.le_refl _) _ | with_reducible refine Below.setCell ?_ (by first | exact Nat.le_refl _ | (simp only []; omega)) _ | with_reducible assumption))
  have x1 := k1.below R1
  have y1 := j1.below R1
  have pc := P1.cell
  have mc := F1.cell
  have zc := Z1.cell
  have zl1 := Z1.lt
  go_enter Try.func22, Try.ntmps22
  go_wp2_with (go_at_call 37; ((with_reducible refine (hw0 w1 x1).mono ?_); rintro e w4 ⟨C1, e1, f1, C2, e2, f2, rfl, O1, O2, hB4⟩); (obtain ⟨w5, hw5⟩ : ∃ w5, w4.alloc (.cells #[.int .u8 p.tos, .int .u16 p.id, .bool p.keep, .int .u8 p.ttl, .int .u8 47, .int .u32 p.src, .int .u32 p.dst, .slice C1 e1 f1, .slice C2 e2 f2] 26) = w5 := ⟨_, rfl⟩); have V5 : Below w4.heap.size w4 w5 := (by rw [← hw5]; (repeat (first | with_reducible exact Below.refl _ _ | with_reducible refine below_drew ?_ | with_reducible refine below_drewN ?_ _ | with_reducible refine below_alloc ?_ (Nat.le_refl _) _ | with_reducible refine Below.setCell ?_ (by first | exact Nat.le_refl _ | (simp only []; omega)) _ | with_reducible assumption))); have T5 := below_then hB4 V5; have P5 := P1.below T5; have F5 := F1.below T5; have Z5 := Z1.below T5; have zc5 := Z5.cell)
  obtain ⟨w6, hw6⟩ : ∃ w6, w5.alloc (.cells #[.int .u8 32, .int .u8 1, .int .u8 136, .int .u8 11] 5) = w6 := ⟨_, rfl⟩
  have OL := L4 w5
  have V6 : Below w5.heap.size w5 w6 := by rw [← hw6]; (repeat (first | with_reducible exact Below.refl _ _ | with_reducible refine below_drew ?_ | with_reducible refine below_drewN ?_ _ | with_reducible refine below_alloc ?_ (Nat.le_refl _) _ | with_reducible refine Below.setCell ?_ (by first | exact Nat.le_refl _ | (simp only []; omega)) _ | with_reducible assumption))
  rw [hw6] at OL ⊢
  have T6 := below_then T5 V6
  have F6 := F1.below T6
  have v6s := V6.size
  have v5s := T5.size
  have zl5 := Z5.lt
  clear hw6 hw5 zc5 pc mc zc hw1
  refine region_txt 10 (by kernel_rfl) (by kernel_rfl) ?_; (iterate 10 (first | (apply ObsK.skip (by rfl)) | (apply ObsK.v (by rfl); (intro wo hT; (repeat (first | (intro v hv; (fail)) | (intro _ _ k; try have hcv := cv k))); (have mc := (F6.below hT).cell; have hsz : w5.heap.size ≤ wo.heap.size := Nat.le_trans v6s hT.size); refine Goes.mk ?_; first | (exact goes_app _ _ rfl rfl (OL.below hT) rfl (by assumption) (by omega) hsz) | (go_simp; first | exact goes_v | exact goes_b (by assumption) | fail | (refine goes_enter ?_; first | (go_at_call 35; ((with_reducible refine (two_any z z0 z1 wo).mono ?_); rintro e w9 ⟨A9, c9, rfl, ho9, hB9⟩); exact ret_b ho9.bs hB9) | (go_at_call 35; ((with_reducible refine (two_any call ca0 ca1 wo).mono ?_); rintro e w9 ⟨A9, c9, rfl, ho9, hB9⟩); exact ret_b ho9.bs hB9))))) | (apply ObsK.b (by rfl); (intro wo hT; (repeat (first | (intro v hv; (fail)) | (intro _ _ k; try have hcv := cv k))); (have mc := (F6.below hT).cell; have hsz : w5.heap.size ≤ wo.heap.size := Nat.le_trans v6s hT.size); refine Goes.mk ?_; first | (exact goes_app _ _ rfl rfl (OL.below hT) rfl (by assumption) (by omega) hsz) | (go_simp; first | exact goes_v | exact goes_b (by assumption) | fail | (refine goes_enter ?_; first | (go_at_call 35; ((with_reducible refine (two_any z z0 z1 wo).mono ?_); rintro e w9 ⟨A9, c9, rfl, ho9, hB9⟩); exact ret_b ho9.bs hB9) | (go_at_call 35; ((with_reducible refine (two_any call ca0 ca1 wo).mono ?_); rintro e w9 ⟨A9, c9, rfl, ho9, hB9⟩); exact ret_b ho9.bs hB9))))) | (apply ObsK.p (q := isW w5.heap.size _) (by rfl) st_isW; (intro wo hT; (repeat (first | (intro v hv; (fail)) | (intro _ _ k; try have hcv := cv k))); (have mc := (F6.below hT).cell; have hsz : w5.heap.size ≤ wo.heap.size := Nat.le_trans v6s hT.size); refine Goes.mk ?_; first | (exact goes_app _ _ rfl rfl (OL.below hT) rfl (by assumption) (by omega) hsz) | (go_simp; first | exact goes_v | exact goes_b (by assumption) | fail | (refine goes_enter ?_; first | (go_at_call 35; ((with_reducible refine (two_any z z0 z1 wo).mono ?_); rintro e w9 ⟨A9, c9, rfl, ho9, hB9⟩); exact ret_b ho9.bs hB9) | (go_at_call 35; ((with_reducible refine (two_any call ca0 ca1 wo).mono ?_); rintro e w9 ⟨A9, c9, rfl, ho9, hB9⟩); exact ret_b ho9.bs hB9))))))); refine ObsK.nil ?_; intro wz hBz; simp only [finOn, List.drop_succ_cons, List.drop_zero, List.drop_nil]
  rintro A9 c9 k9 v7 ⟨A7, n7, c7, rfl, O7⟩ A8 c8 k8
  go_simp
  have u7 : n7 = 6 := by rw [← O7.len]; rfl
  subst u7
  have V7 := below_then V6 hBz
  have F7 := F1.below (below_then T5 V7)
  have mc7 := F7.cell
  clear k8
  go_wp2_with (first
    | (at_builtin; refine wpList_append_bs (w0 := w5) _ rfl _ _ _ rfl w5.heap.size 5 Try.underlying24 info_u8 A7 6 c7 _ rfl O7 A9 2 c9 (two call) rfl k9 V7 (by omega) (by first | exact Nat.le_refl _ | exact Below.size V7 | omega | (simp <;> omega)) ?_; intro A10 n10 c10 w10 ho10 hB10 _ hz10; have u10 : n10 = 8 := (by rw [← ho10.len]; rfl); subst u10; rw [H0.out] at ho10; (obtain ⟨g10, rfl, ge10, gt10⟩ := ho10.ptr (by omega)); have a10 := ho10.at_ (i := 0) (by omega); have a11 := ho10.at_ (i := 1) (by omega); have gk10 : k + 1 + 1 < g10 := (by omega); have F10 := F1.below (below_then T5 hB10); have mc10 := F10.cell; have pc10 := (P1.below (below_then T5 hB10)).cell; have zc10 := (Z1.below (below_then T5 hB10)).cell))
  have S12 : Own (w10.setCell ⟨g10, 0, none⟩ (.int .u8 48)) w5.heap.size 5 (some ⟨g10, 0, none⟩) 8 c10 (grB true false ++ two z ++ two call) := by
    have := ho10.set_ (i := 0) (by omega) 48 (y := 48) (by omega)
    exact this
  have B12 := hB10.setCell (p := ⟨g10, 0, none⟩) (by omega) (.int .u8 48)
  have M12 := (F1.below (below_then T5 B12)).cell
  have MP12 := (P1.below (below_then T5 B12)).cell
  obtain ⟨w12, hw12⟩ : ∃ w12, w10.setCell ⟨g10, 0, none⟩ (.int .u8 48) = w12 := ⟨_, rfl⟩
  rw [hw12] at S12 B12 M12 MP12 ⊢
  have bs12 := B12.size
  refine (four_any seq se0 se1 _).mono ?_
  rintro e w13 ⟨A13, c13, rfl, ho13, hB13⟩
  have S13 := S12.below hB13
  have B13 := below_then B12 hB13
  go_wp2_with (first
    | (at_builtin; refine wpList_append_bs (w0 := w5) _ rfl _ _ _ rfl w5.heap.size 5 Try.underlying24 info_u8 (some ⟨g10, 0, none⟩) 8 c10 _ rfl S13 A13 4 c13 (four seq) rfl ho13.bs B13 (by omega) (by first | exact Nat.le_refl _ | exact Below.size B13 | omega | (simp <;> omega)) ?_; intro A14 n14 c14 w14 ho14 hB14 _ hz14; have u14 : n14 = 12 := (by rw [← ho14.len]; rfl); subst u14; (obtain ⟨g14, rfl, ge14, gt14⟩ := ho14.ptr (by omega)); have a141 := ho14.at_ (i := 1) (by omega); have gk14 : k + 1 + 1 < g14 := (by omega); have F14 := F1.below (below_then T5 hB14); have mc14 := F14.cell; have pc14 := (P1.below (below_then T5 hB14)).cell; have zc14 := (Z1.below (below_then T5 hB14)).cell))
  have S16 : Own (w14.setCell ⟨g14, 1, none⟩ (.int .u8 129)) w5.heap.size 5 (some ⟨g14, 0, none⟩) 12 c14 ((grB true true ++ two z ++ two call) ++ four seq) := by
    have := ho14.set_ (i := 1) (by omega) 129 (y := 129) (by omega)
    exact this
  have B16 := hB14.setCell (p := ⟨g14, 1, none⟩) (by omega) (.int .u8 129)
  have M16 := (F1.below (below_then T5 B16)).cell
  have MP16 := (P1.below (below_then T5 B16)).cell
  obtain ⟨w16, hw16⟩ : ∃ w16, w14.setCell ⟨g14, 1, none⟩ (.int .u8 129) = w16 := ⟨_, rfl⟩
  rw [hw16] at S16 B16 M16 MP16 ⊢
  have bs16 := B16.size
  refine (four_any ack ak0 ak1 _).mono ?_
  rintro e w17 ⟨A17, c17, rfl, ho17, hB17⟩
  have S17 := S16.below hB17
  have B17 := below_then B16 hB17
  go_wp2_with (first
    | (at_builtin; refine wpList_append_bs (w0 := w5) _ rfl _ _ _ rfl w5.heap.size 5 Try.underlying24 info_u8 (some ⟨g14, 0, none⟩) 12 c14 _ rfl S17 A17 4 c17 (four ack) rfl ho17.bs B17 (by omega) (by first | exact Nat.le_refl _ | exact Below.size B17 | omega | (simp <;> omega)) ?_; intro A18 n18 c18 w18 ho18 hB18 _ hz18; have u18 : n18 = 16 := (by rw [← ho18.len]; rfl); subst u18; (obtain ⟨g18, rfl, ge18, gt18⟩ := ho18.ptr (by omega)); have a181 := ho18.at_ (i := 1) (by omega); have gk18 : k + 1 + 1 < g18 := (by omega); have F18 := F1.below (below_then T5 hB18); have mc18 := F18.cell; have pc18 := (P1.below (below_then T5 hB18)).cell; have zc18 := (Z1.below (below_then T5 hB18)).cell))
  have Tc := below_then T5 hB18
  have Pc := P1.below Tc
  have Fc := F1.below Tc
  have Zc := Z1.below Tc
  have pcc := Pc.cell
  have fcc := Fc.cell
  have zcc := Zc.cell
  have yc := y1.below Tc
  have xc := x1.below Tc
  have gtc := ho18.at_ (i := 0) (by omega)
  obtain ⟨wf, hwf, Sf⟩ := store9 Zc (.int .u8 0) (.int .u16 0) (.bool false) (.int .u8 0) (.int .u8 0) (.int .u32 0) (.int .u32 0) (.slice none 0 0) (.slice none 0 0)
  rw [hwf]
  have pf := Sf.blk.cell
  exact bodyPost_ret (by simp [results, Try.results22, go_sem, pf]) rfl (wiPost_no (Sf.bel (below_then R1 Tc) (by omega)))
end Go.Proofs.Ythgoffbfgdgkpaa

namespace Go.Proofs.Ythgoffbfgdgkpaa
open Go.RowKit
set_option linter.unusedVariables false
set_option linter.unusedSimpArgs false
set_option maxHeartbeats 4000000
set_option maxRecDepth 100000

theorem rbg_any (p : Pkt) (A1 : Option Addr) (n1 c1 : Nat) (A2 : Option Addr) (n2 c2 : Nat) (f : Frm) (hf : f.Ok) (B1 : Option Addr) (m1 d1 : Nat) (w : World) (k1 : Bs w A1 n1 c1 p.opt) (j1 : Bs w B1 m1 d1 f.dat) :
    Calls Try.prog 22 #[(.agg #[.int .u8 (p).tos, .int .u16 (p).id, .bool (p).keep, .int .u8 (p).ttl, .int .u8 (p).proto, .int .u32 (p).src, .int .u32 (p).dst, .slice A1 n1 c1, .slice A2 n2 c2]), (.agg #[.int .u16 (f).call, .bool (f).hs, .bool (f).ha, .int .u32 (f).seq, .int .u32 (f).ack, .slice B1 m1 d1])] w (WiPost w (bgP p f) (bgE p f)) := by
  cases hb : gBad f with
  | true =>
    unfold bgP bgE
    rw [hb, if_pos rfl, if_pos rfl]
    exact rbg_bad' p A1 n1 c1 A2 n2 c2 f.call f.hs f.ha f.seq f.ack f.dat B1 m1 d1 w k1 j1 (gBad_iff hb)
  | false =>
    have l1 := k1.len
    have jl := j1.len
    have hE : bgE p f = wiE p (gN f) := by unfold bgE; rw [hb, if_neg (by decide)]
    have hP : bgP p f = withP p 47 (gL f) := by unfold bgP; rw [hb, if_neg (by decide)]
    have hN := gL_len f
    have hw : ∀ W A n c, Bs W A1 n1 c1 p.opt → Bs W A n c (gL f) → Calls Try.prog 37 #[(.agg #[.int .u8 (p).tos, .int .u16 (p).id, .bool (p).keep, .int .u8 (p).ttl, .int .u8 (p).proto, .int .u32 (p).src, .int .u32 (p).dst, .slice A1 n1 c1, .slice A2 n2 c2]), .int .u8 47, .slice A n c] W (WiPost W (bgP p f) (bgE p f)) := fun W A n c kk ks => by
      have hh := rwith_any p A1 n1 c1 A2 n2 c2 47 A n c (gL f) W kk ks
      rw [hE, hP, ← hN]
      exact hh
    by_cases h1 : (n1 : Int) ≤ 40
    · by_cases h2 : n1 % 4 = 0
      · have hlong : ∀ N : Nat, gN f = N → 65535 < 20 + (n1 : Int) + N → bgP p f = zP ∧ bgE p f = 8 := fun N hN' h => by
          have e8 : wiE p (gN f) = 8 := wiE_8 l1 h1 h2 (by omega)
          refine ⟨?_, by rw [hE, e8]⟩
          rw [hP]; unfold withP; rw [hN, e8, if_neg (by decide)]
        have hNe : gN f = 8 + (if f.hs then 4 else 0) + (if f.ha then 4 else 0) + m1 := by unfold gN; rw [jl]
        clear hE hP hN
        revert hlong hNe hw
        generalize bgP p f = Q
        generalize bgE p f = E
        intro hw hlong hNe
        obtain ⟨call, hs, ha, seq, ack, dat⟩ := f
        simp only at jl
        subst jl
        obtain ⟨c0, s0, a0⟩ := hf
        cases hs <;> cases ha
        · have h5 : (seq != 0) = false ∧ (ack != 0) = false := by
            revert hb; unfold gBad; cases (seq != 0) <;> cases (ack != 0) <;> simp
          by_cases h3 : 20 + (n1 : Int) + 8 + dat.length ≤ 65535
          · exact rbg_ok00 p A1 n1 c1 A2 n2 c2 call seq ack h5.1 h5.2 dat B1 _ d1 w k1 j1 c0 s0 a0 h1 h2 Q E h3 (fun W A n c kk ks => hw W A n c kk (by simpa [gL, gH] using ks))
          · obtain ⟨hQ, hE⟩ := hlong _ hNe (by simp; omega)
            exact rbg_long00 p A1 n1 c1 A2 n2 c2 call seq ack h5.1 h5.2 dat B1 _ d1 w k1 j1 c0 s0 a0 h1 h2 Q E (by omega) hQ hE
        · have h5 : (seq != 0) = false := by
            revert hb; unfold gBad; cases (seq != 0) <;> simp
          by_cases h3 : 20 + (n1 : Int) + 12 + dat.length ≤ 65535
          · exact rbg_ok01 p A1 n1 c1 A2 n2 c2 call seq ack h5 dat B1 _ d1 w k1 j1 c0 s0 a0 h1 h2 Q E h3 (fun W A n c kk ks => hw W A n c kk (by simpa [gL, gH] using ks))
          · obtain ⟨hQ, hE⟩ := hlong _ hNe (by simp; omega)
            exact rbg_long01 p A1 n1 c1 A2 n2 c2 call seq ack h5 dat B1 _ d1 w k1 j1 c0 s0 a0 h1 h2 Q E (by omega) hQ hE
        · have h5 : (ack != 0) = false := by
            revert hb; unfold gBad; cases (ack != 0) <;> simp
          by_cases h3 : 20 + (n1 : Int) + 12 + dat.length ≤ 65535
          · exact rbg_ok10 p A1 n1 c1 A2 n2 c2 call seq ack h5 dat B1 _ d1 w k1 j1 c0 s0 a0 h1 h2 Q E h3 (fun W A n c kk ks => hw W A n c kk (by simpa [gL, gH] using ks))
          · obtain ⟨hQ, hE⟩ := hlong _ hNe (by simp; omega)
            exact rbg_long10 p A1 n1 c1 A2 n2 c2 call seq ack h5 dat B1 _ d1 w k1 j1 c0 s0 a0 h1 h2 Q E (by omega) hQ hE
        · by_cases h3 : 20 + (n1 : Int) + 16 + dat.length ≤ 65535
          · exact rbg_ok11 p A1 n1 c1 A2 n2 c2 call seq ack dat B1 _ d1 w k1 j1 c0 s0 a0 h1 h2 Q E h3 (fun W A n c kk ks => hw W A n c kk (by simpa [gL, gH] using ks))
          · obtain ⟨hQ, hE⟩ := hlong _ hNe (by simp; omega)
            exact rbg_long11 p A1 n1 c1 A2 n2 c2 call seq ack dat B1 _ d1 w k1 j1 c0 s0 a0 h1 h2 Q E (by omega) hQ hE
      · have e4 : wiE p (gN f) = 4 := wiE_4 l1 (.inr h2)
        rw [hE, e4, show bgP p f = zP from by rw [hP]; unfold withP; rw [hN, e4, if_neg (by decide)]]
        clear hw hE hP hN e4
        obtain ⟨call, hs, ha, seq, ack, dat⟩ := f
        cases hs <;> cases ha
        · have h5 : (seq != 0) = false ∧ (ack != 0) = false := by
            revert hb; unfold gBad; cases (seq != 0) <;> cases (ack != 0) <;> simp
          exact rbg_400 p A1 n1 c1 A2 n2 c2 call seq ack h5.1 h5.2 dat B1 m1 d1 w k1 j1 (.inr h2)
        · have h5 : (seq != 0) = false := by
            revert hb; unfold gBad; cases (seq != 0) <;> simp
          exact rbg_401 p A1 n1 c1 A2 n2 c2 call seq ack h5 dat B1 m1 d1 w k1 j1 (.inr h2)
        · have h5 : (ack != 0) = false := by
            revert hb; unfold gBad; cases (ack != 0) <;> simp
          exact rbg_410 p A1 n1 c1 A2 n2 c2 call seq ack h5 dat B1 m1 d1 w k1 j1 (.inr h2)
        · exact rbg_411 p A1 n1 c1 A2 n2 c2 call seq ack dat B1 m1 d1 w k1 j1 (.inr h2)
    · have e4 : wiE p (gN f) = 4 := wiE_4 l1 (.inl (by omega))
      rw [hE, e4, show bgP p f = zP from by rw [hP]; unfold withP; rw [hN, e4, if_neg (by decide)]]
      clear hw hE hP hN e4
      obtain ⟨call, hs, ha, seq, ack, dat⟩ := f
      cases hs <;> cases ha
      · have h5 : (seq != 0) = false ∧ (ack != 0) = false := by
          revert hb; unfold gBad; cases (seq != 0) <;> cases (ack != 0) <;> simp
        exact rbg_400 p A1 n1 c1 A2 n2 c2 call seq ack h5.1 h5.2 dat B1 m1 d1 w k1 j1 (.inl (by omega))
      · have h5 : (seq != 0) = false := by
          revert hb; unfold gBad; cases (seq != 0) <;> simp
        exact rbg_401 p A1 n1 c1 A2 n2 c2 call seq ack h5 dat B1 m1 d1 w k1 j1 (.inl (by omega))
      · have h5 : (ack != 0) = false := by
          revert hb; unfold gBad; cases (ack != 0) <;> simp
        exact rbg_410 p A1 n1 c1 A2 n2 c2 call seq ack h5 dat B1 m1 d1 w k1 j1 (.inl (by omega))
      · exact rbg_411 p A1 n1 c1 A2 n2 c2 call seq ack dat B1 m1 d1 w k1 j1 (.inl (by omega))
end Go.Proofs.Ythgoffbfgdgkpaa

namespace Go.Proofs.Ythgoffbfgdgkpaa
open Go.RowKit
set_option linter.unusedVariables false
set_option linter.unusedSimpArgs false

theorem Blk.idle {w : World} {k : Nat} {cs : Array Value} {t : TypeId} (h : Blk w k cs t) {j : Nat} {v : Value} (hv : cs[j]? = some v) : w.setCell ⟨k, j, none⟩ v = w := by
  have hr := h.rd
  have hs : cs.setIfInBounds j v = cs := by
    apply Array.ext_getElem?
    intro i
    rw [Array.getElem?_setIfInBounds]
    split
    · rename_i e
      subst e
      rw [hv]
      split
      · rfl
      · rename_i h2
        rw [Array.getElem?_eq_none (by omega)] at hv
        cases hv
    · rfl
  unfold World.setCell
  have : (w.heap.modify k fun
      | .cells c elem frozen => .cells (if (none : Option Nat).isSome then c else c.setIfInBounds j v) elem frozen
      | o => o) = w.heap := by
    apply Array.ext_getElem?
    intro i
    rw [Array.getElem?_modify]
    split
    · rename_i e
      subst e
      rw [hr]
      simp [hs]
    · rfl
  simp only
  first | (rw [this]; done) | (show ({ w with heap := _ } : World) = w; exact congrArg (fun h => ({ w with heap := h } : World)) this)
end Go.Proofs.Ythgoffbfgdgkpaa


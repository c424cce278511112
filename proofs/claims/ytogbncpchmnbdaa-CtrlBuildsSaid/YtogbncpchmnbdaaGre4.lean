/- The document's packet with a frame. -/
import Derived.Test.YtogbncpchmnbdaaGre2
import Derived.Test.YtogbncpchmnbdaaRegX2
import Derived.Test.YtogbncpchmnbdaaMsg4
namespace Go.Proofs.Ytogbncpchmnbdaa
open Go.RowKit
set_option linter.unusedVariables false
set_option linter.unusedSimpArgs false
set_option linter.unusedSimpArgs false
set_option maxHeartbeats 4000000
set_option maxRecDepth 100000

theorem sx_isTup {B : Nat} {P : Pkt} {E : Int} {g : Nat} (hg : g < B) : ∀ w w' v, isTup B P E w v → w.grownBy w' (some g) → isTup B P E w' v := fun _ _ _ ⟨A, b, c, d, e, f, h, k, l⟩ hE => ⟨A, b, c, d, e, f, h, k.far hE (fun k e => by injection e with e; omega), l.far hE (fun k e => by injection e with e; omega)⟩
theorem sx_isPk {B : Nat} {P : Pkt} {g : Nat} (hg : g < B) : ∀ w w' v, isPk B P w v → w.grownBy w' (some g) → isPk B P w' v := fun _ _ _ ⟨A, b, c, d, e, f, h, k, l⟩ hE => ⟨A, b, c, d, e, f, h, k.far hE (fun k e => by injection e with e; omega), l.far hE (fun k e => by injection e with e; omega)⟩
theorem rbg_bad' (p : Pkt) (A1 : Option Addr) (n1 c1 : Nat) (A2 : Option Addr) (n2 c2 : Nat) (call : Int) (hs ha : Bool) (seq ack : Int) (dat : List UInt8) (B1 : Option Addr) (m1 d1 : Nat) (w : World) (k1 : Bs w A1 n1 c1 p.opt) (j1 : Bs w B1 m1 d1 dat)
    (h : (hs = false ∧ (seq != 0) = true) ∨ ((hs = true ∨ (seq != 0) = false) ∧ ha = false ∧ (ack != 0) = true)) :
    Calls Try.prog 17 #[(.agg #[.int .u8 (p).tos, .int .u16 (p).id, .bool (p).keep, .int .u8 (p).ttl, .int .u8 (p).proto, .int .u32 (p).src, .int .u32 (p).dst, .slice A1 n1 c1, .slice A2 n2 c2]), .agg #[.int .u16 call, .bool hs, .bool ha, .int .u32 seq, .int .u32 ack, .slice B1 m1 d1]] w (WiPost w zP 4) := by
  obtain ⟨k, hk⟩ : ∃ k : Nat, w.heap.size = k := ⟨_, rfl⟩
  obtain ⟨w1, hw1⟩ : ∃ w1, ((w.alloc (.cells #[.int .u8 (p).tos, .int .u16 (p).id, .bool (p).keep, .int .u8 (p).ttl, .int .u8 (p).proto, .int .u32 (p).src, .int .u32 (p).dst, .slice A1 n1 c1, .slice A2 n2 c2] 26)).alloc (.cells #[.int .u16 call, .bool hs, .bool ha, .int .u32 seq, .int .u32 ack, .slice B1 m1 d1] 30)).alloc (.cells #[.int .u8 0, .int .u16 0, .bool false, .int .u8 0, .int .u8 0, .int .u32 0, .int .u32 0, .slice none 0 0, .slice none 0 0] 26) = w1 := ⟨_, rfl⟩
  have P1 : Blk w1 k #[.int .u8 (p).tos, .int .u16 (p).id, .bool (p).keep, .int .u8 (p).ttl, .int .u8 (p).proto, .int .u32 (p).src, .int .u32 (p).dst, .slice A1 n1 c1, .slice A2 n2 c2] 26 := by rw [← hw1]; exact ((blk_new w _ _ k hk).alloc _).alloc _
  have F1 : Blk w1 (k + 1) #[.int .u16 call, .bool hs, .bool ha, .int .u32 seq, .int .u32 ack, .slice B1 m1 d1] 30 := by rw [← hw1]; exact (blk_new _ _ _ (k + 1) (by simp [hk])).alloc _
  have Z1 : Blk w1 (k + 1 + 1) #[.int .u8 0, .int .u16 0, .bool false, .int .u8 0, .int .u8 0, .int .u32 0, .int .u32 0, .slice none 0 0, .slice none 0 0] 26 := by rw [← hw1]; exact blk_new _ _ _ (k + 1 + 1) (by simp [hk])
  have R1 : Below w.heap.size w w1 := by rw [← hw1]; (repeat (first | with_reducible exact Below.refl _ _ | with_reducible refine below_drew ?_ | with_reducible refine below_drewN ?_ _ | with_reducible refine below_alloc ?_ (Nat.le_refl _) _ | with_reducible refine Below.setCell ?_ (by first | exact Nat.le_refl _ | (simp only []; omega)) _ | with_reducible assumption))
  have x1 := k1.below R1
  have y1 := j1.below R1
  have pc := P1.cell
  have mc := F1.cell
  have zc := Z1.cell
  have zl1 := Z1.lt
  obtain ⟨wf, hwf, Sf⟩ := store9 Z1 (.int .u8 0) (.int .u16 0) (.bool false) (.int .u8 0) (.int .u8 0) (.int .u32 0) (.int .u32 0) (.slice none 0 0) (.slice none 0 0)
  have pf := Sf.blk.cell
  have Tf := Sf.bel R1 (by omega)
  have h0 : hs = false ∨ hs = true := by cases hs <;> simp
  rcases h with ⟨h1, h2⟩ | ⟨h1 | h1, h2, h3⟩
  · subst h1
    go_enter Try.func17, Try.ntmps17
    go_wp2_with fail
    exact bodyPost_ret (by simp [results, Try.results17, go_sem, pf]) rfl (wiPost_no Tf)
  · subst h1 h2
    go_enter Try.func17, Try.ntmps17
    go_wp2_with fail
    exact bodyPost_ret (by simp [results, Try.results17, go_sem, pf]) rfl (wiPost_no Tf)
  · subst h2
    rcases h0 with h0 | h0
    all_goals subst h0
    all_goals go_enter Try.func17, Try.ntmps17
    all_goals go_wp2_with fail
    all_goals exact bodyPost_ret (by simp [results, Try.results17, go_sem, pf]) rfl (wiPost_no Tf)
theorem rbg_400 (p : Pkt) (A1 : Option Addr) (n1 c1 : Nat) (A2 : Option Addr) (n2 c2 : Nat) (call : Int) (seq ack : Int) (hsq : (seq != 0) = false) (hac : (ack != 0) = false) (dat : List UInt8) (B1 : Option Addr) (m1 d1 : Nat) (w : World) (k1 : Bs w A1 n1 c1 p.opt) (j1 : Bs w B1 m1 d1 dat)
    (h : 40 < (n1 : Int) ∨ n1 % 4 ≠ 0) :
    Calls Try.prog 17 #[(.agg #[.int .u8 (p).tos, .int .u16 (p).id, .bool (p).keep, .int .u8 (p).ttl, .int .u8 (p).proto, .int .u32 (p).src, .int .u32 (p).dst, .slice A1 n1 c1, .slice A2 n2 c2]), .agg #[.int .u16 call, .bool false, .bool false, .int .u32 seq, .int .u32 ack, .slice B1 m1 d1]] w (WiPost w zP 4) := by
  have hw0 : ∀ W, Bs W A1 n1 c1 p.opt → Calls Try.prog 41 #[(.agg #[.int .u8 (p).tos, .int .u16 (p).id, .bool (p).keep, .int .u8 (p).ttl, .int .u8 (p).proto, .int .u32 (p).src, .int .u32 (p).dst, .slice A1 n1 c1, .slice A2 n2 c2]), .int .u8 47, .slice none 0 0] W (fun e w' => ∃ C1 e1 f1 C2 e2 f2, e = .returned (.tuple #[.agg #[.int .u8 0, .int .u16 0, .bool false, .int .u8 0, .int .u8 0, .int .u32 0, .int .u32 0, .slice C1 e1 f1, .slice C2 e2 f2], .int .i64 4]) ∧ Own w' W.heap.size 5 C1 e1 f1 [] ∧ Own w' W.heap.size 5 C2 e2 f2 [] ∧ Below W.heap.size W w') := fun W kk => by
    have hh := rwith_any p A1 n1 c1 A2 n2 c2 47 none 0 0 [] W kk (Bs.none_ W)
    unfold withP at hh
    rw [wiE_4 k1.len h, if_neg (by decide)] at hh
    exact hh.mono fun e w' hq => hq.out
  have b1 := j1.max
  obtain ⟨k, hk⟩ : ∃ k : Nat, w.heap.size = k := ⟨_, rfl⟩
  obtain ⟨w1, hw1⟩ : ∃ w1, ((w.alloc (.cells #[.int .u8 (p).tos, .int .u16 (p).id, .bool (p).keep, .int .u8 (p).ttl, .int .u8 (p).proto, .int .u32 (p).src, .int .u32 (p).dst, .slice A1 n1 c1, .slice A2 n2 c2] 26)).alloc (.cells #[.int .u16 call, .bool false, .bool false, .int .u32 seq, .int .u32 ack, .slice B1 m1 d1] 30)).alloc (.cells #[.int .u8 0, .int .u16 0, .bool false, .int .u8 0, .int .u8 0, .int .u32 0, .int .u32 0, .slice none 0 0, .slice none 0 0] 26) = w1 := ⟨_, rfl⟩
  have P1 : Blk w1 k #[.int .u8 (p).tos, .int .u16 (p).id, .bool (p).keep, .int .u8 (p).ttl, .int .u8 (p).proto, .int .u32 (p).src, .int .u32 (p).dst, .slice A1 n1 c1, .slice A2 n2 c2] 26 := by rw [← hw1]; exact ((blk_new w _ _ k hk).alloc _).alloc _
  have F1 : Blk w1 (k + 1) #[.int .u16 call, .bool false, .bool false, .int .u32 seq, .int .u32 ack, .slice B1 m1 d1] 30 := by rw [← hw1]; exact (blk_new _ _ _ (k + 1) (by simp [hk])).alloc _
  have Z1 : Blk w1 (k + 1 + 1) #[.int .u8 0, .int .u16 0, .bool false, .int .u8 0, .int .u8 0, .int .u32 0, .int .u32 0, .slice none 0 0, .slice none 0 0] 26 := by rw [← hw1]; exact blk_new _ _ _ (k + 1 + 1) (by simp [hk])
  have R1 : Below w.heap.size w w1 := by rw [← hw1]; (repeat (first | with_reducible exact Below.refl _ _ | with_reducible refine below_drew ?_ | with_reducible refine below_drewN ?_ _ | with_reducible refine below_alloc ?_ (Nat.le_refl _) _ | with_reducible refine Below.setCell ?_ (by first | exact Nat.le_refl _ | (simp only []; omega)) _ | with_reducible assumption))
  have x1 := k1.below R1
  have y1 := j1.below R1
  have pc := P1.cell
  have mc := F1.cell
  have zc := Z1.cell
  have zl1 := Z1.lt
  go_enter Try.func17, Try.ntmps17
  go_wp2_with (go_at_call 41; ((with_reducible refine (hw0 w1 x1).mono ?_); rintro e w4 ⟨C1, e1, f1, C2, e2, f2, rfl, O1, O2, hB4⟩); (obtain ⟨w5, hw5⟩ : ∃ w5, w4.alloc (.cells #[.int .u8 0, .int .u16 0, .bool false, .int .u8 0, .int .u8 0, .int .u32 0, .int .u32 0, .slice C1 e1 f1, .slice C2 e2 f2] 26) = w5 := ⟨_, rfl⟩); have V5 : Below w4.heap.size w4 w5 := (by rw [← hw5]; (repeat (first | with_reducible exact Below.refl _ _ | with_reducible refine below_drew ?_ | with_reducible refine below_drewN ?_ _ | with_reducible refine below_alloc ?_ (Nat.le_refl _) _ | with_reducible refine Below.setCell ?_ (by first | exact Nat.le_refl _ | (simp only []; omega)) _ | with_reducible assumption))); have T5 := below_then hB4 V5; have P5 := P1.below T5; have F5 := F1.below T5; have Z5 := Z1.below T5; have zc5 := Z5.cell)
  obtain ⟨wf, hwf, Sf⟩ := store9 Z5 (.int .u8 0) (.int .u16 0) (.bool false) (.int .u8 0) (.int .u8 0) (.int .u32 0) (.int .u32 0) (.slice none 0 0) (.slice none 0 0)
  rw [hwf]
  have pf := Sf.blk.cell
  exact bodyPost_ret (by simp [results, Try.results17, go_sem, pf]) rfl (wiPost_no (Sf.bel (below_then R1 T5) (by omega)))
theorem rbg_ok00 (p : Pkt) (A1 : Option Addr) (n1 c1 : Nat) (A2 : Option Addr) (n2 c2 : Nat) (call : Int) (seq ack : Int) (hsq : (seq != 0) = false) (hac : (ack != 0) = false) (dat : List UInt8) (B1 : Option Addr) (m1 d1 : Nat) (w : World) (k1 : Bs w A1 n1 c1 p.opt) (j1 : Bs w B1 m1 d1 dat)
    (hca : 0 ≤ call ∧ call ≤ 65535) (hse : 0 ≤ seq ∧ seq ≤ 4294967295) (hak : 0 ≤ ack ∧ ack ≤ 4294967295) (h1 : (n1 : Int) ≤ 40) (h2 : n1 % 4 = 0) (Q : Pkt) (E : Int) (h3 : 20 + (n1 : Int) + 8 + m1 ≤ 65535) (hok : ∀ W A n c, Bs W A1 n1 c1 p.opt → Bs W A n c ((grB false false ++ two ((m1 : Int) % 65536) ++ two call) ++ dat) → Calls Try.prog 41 #[(.agg #[.int .u8 (p).tos, .int .u16 (p).id, .bool (p).keep, .int .u8 (p).ttl, .int .u8 (p).proto, .int .u32 (p).src, .int .u32 (p).dst, .slice A1 n1 c1, .slice A2 n2 c2]), .int .u8 47, .slice A n c] W (WiPost W Q E)) :
    Calls Try.prog 17 #[(.agg #[.int .u8 (p).tos, .int .u16 (p).id, .bool (p).keep, .int .u8 (p).ttl, .int .u8 (p).proto, .int .u32 (p).src, .int .u32 (p).dst, .slice A1 n1 c1, .slice A2 n2 c2]), .agg #[.int .u16 call, .bool false, .bool false, .int .u32 seq, .int .u32 ack, .slice B1 m1 d1]] w (WiPost w Q E) := by
  have hw0 : ∀ W, Bs W A1 n1 c1 p.opt → Calls Try.prog 41 #[(.agg #[.int .u8 (p).tos, .int .u16 (p).id, .bool (p).keep, .int .u8 (p).ttl, .int .u8 (p).proto, .int .u32 (p).src, .int .u32 (p).dst, .slice A1 n1 c1, .slice A2 n2 c2]), .int .u8 47, .slice none 0 0] W (fun e w' => ∃ C1 e1 f1 C2 e2 f2, e = .returned (.tuple #[.agg #[.int .u8 p.tos, .int .u16 p.id, .bool p.keep, .int .u8 p.ttl, .int .u8 47, .int .u32 p.src, .int .u32 p.dst, .slice C1 e1 f1, .slice C2 e2 f2], .int .i64 0]) ∧ Own w' W.heap.size 5 C1 e1 f1 p.opt ∧ Own w' W.heap.size 5 C2 e2 f2 [] ∧ Below W.heap.size W w') := fun W kk => by
    have hh := rwith_any p A1 n1 c1 A2 n2 c2 47 none 0 0 [] W kk (Bs.none_ W)
    unfold withP at hh
    rw [show ([] : List UInt8).length = 0 from rfl, wiE_0 k1.len h1 h2 (by omega), if_pos rfl] at hh
    exact hh.mono fun e w' hq => hq.out
  have b1 := j1.max
  obtain ⟨ca0, ca1⟩ := hca
  obtain ⟨se0, se1⟩ := hse
  obtain ⟨ak0, ak1⟩ := hak
  obtain ⟨z, hz⟩ : ∃ z : Int, (m1 : Int) % 65536 = z := ⟨_, rfl⟩
  have z0 : 0 ≤ z := by omega
  have z1 : z ≤ 65535 := by omega
  have hzw : IntKind.u16.wrap (m1 : Int) = z := by rw [← hz]; simp [IntKind.wrap, IntKind.signed, IntKind.bits]
  rw [hz] at hok
  have L4 := fun W => lit4 (e := 5) (x := 32) (y := 1) (z := 136) (u := 11) (by omega) (by omega) (by omega) (by omega) (by omega) (by omega) (by omega) (by omega) W
  have H0 : Hid ([ub 32, ub 1, ub 136, ub 11] ++ two z ++ two call = grB false false ++ two z ++ two call) := rfl
  obtain ⟨k, hk⟩ : ∃ k : Nat, w.heap.size = k := ⟨_, rfl⟩
  obtain ⟨w1, hw1⟩ : ∃ w1, ((w.alloc (.cells #[.int .u8 (p).tos, .int .u16 (p).id, .bool (p).keep, .int .u8 (p).ttl, .int .u8 (p).proto, .int .u32 (p).src, .int .u32 (p).dst, .slice A1 n1 c1, .slice A2 n2 c2] 26)).alloc (.cells #[.int .u16 call, .bool false, .bool false, .int .u32 seq, .int .u32 ack, .slice B1 m1 d1] 30)).alloc (.cells #[.int .u8 0, .int .u16 0, .bool false, .int .u8 0, .int .u8 0, .int .u32 0, .int .u32 0, .slice none 0 0, .slice none 0 0] 26) = w1 := ⟨_, rfl⟩
  have P1 : Blk w1 k #[.int .u8 (p).tos, .int .u16 (p).id, .bool (p).keep, .int .u8 (p).ttl, .int .u8 (p).proto, .int .u32 (p).src, .int .u32 (p).dst, .slice A1 n1 c1, .slice A2 n2 c2] 26 := by rw [← hw1]; exact ((blk_new w _ _ k hk).alloc _).alloc _
  have F1 : Blk w1 (k + 1) #[.int .u16 call, .bool false, .bool false, .int .u32 seq, .int .u32 ack, .slice B1 m1 d1] 30 := by rw [← hw1]; exact (blk_new _ _ _ (k + 1) (by simp [hk])).alloc _
  have Z1 : Blk w1 (k + 1 + 1) #[.int .u8 0, .int .u16 0, .bool false, .int .u8 0, .int .u8 0, .int .u32 0, .int .u32 0, .slice none 0 0, .slice none 0 0] 26 := by rw [← hw1]; exact blk_new _ _ _ (k + 1 + 1) (by simp [hk])
  have R1 : Below w.heap.size w w1 := by rw [← hw1]; (repeat (first | with_reducible exact Below.refl _ _ | with_reducible refine below_drew ?_ | with_reducible refine below_drewN ?_ _ | with_reducible refine below_alloc ?_ (Nat.le_refl _) _ | with_reducible refine Below.setCell ?_ (by first | exact Nat.le_refl _ | (simp only []; omega)) _ | with_reducible assumption))
  have x1 := k1.below R1
  have y1 := j1.below R1
  have pc := P1.cell
  have mc := F1.cell
  have zc := Z1.cell
  have zl1 := Z1.lt
  go_enter Try.func17, Try.ntmps17
  go_wp2_with (go_at_call 41; ((with_reducible refine (hw0 w1 x1).mono ?_); rintro e w4 ⟨C1, e1, f1, C2, e2, f2, rfl, O1, O2, hB4⟩); (obtain ⟨w5, hw5⟩ : ∃ w5, w4.alloc (.cells #[.int .u8 p.tos, .int .u16 p.id, .bool p.keep, .int .u8 p.ttl, .int .u8 47, .int .u32 p.src, .int .u32 p.dst, .slice C1 e1 f1, .slice C2 e2 f2] 26) = w5 := ⟨_, rfl⟩); have V5 : Below w4.heap.size w4 w5 := (by rw [← hw5]; (repeat (first | with_reducible exact Below.refl _ _ | with_reducible refine below_drew ?_ | with_reducible refine below_drewN ?_ _ | with_reducible refine below_alloc ?_ (Nat.le_refl _) _ | with_reducible refine Below.setCell ?_ (by first | exact Nat.le_refl _ | (simp only []; omega)) _ | with_reducible assumption))); have T5 := below_then hB4 V5; have P5 := P1.below T5; have F5 := F1.below T5; have Z5 := Z1.below T5; have zc5 := Z5.cell)
  obtain ⟨w6, hw6⟩ : ∃ w6, w5.alloc (.cells #[.int .u8 32, .int .u8 1, .int .u8 136, .int .u8 11] 5) = w6 := ⟨_, rfl⟩
  have OL := L4 w5
  have V6 : Below w5.heap.size w5 w6 := by rw [← hw6]; (repeat (first | with_reducible exact Below.refl _ _ | with_reducible refine below_drew ?_ | with_reducible refine below_drewN ?_ _ | with_reducible refine below_alloc ?_ (Nat.le_refl _) _ | with_reducible refine Below.setCell ?_ (by first | exact Nat.le_refl _ | (simp only []; omega)) _ | with_reducible assumption))
  rw [hw6] at OL ⊢
  have T6 := below_then T5 V6
  have F6 := F1.below T6
  have v6s := V6.size
  have v5s := T5.size
  have zl5 := Z5.lt
  clear hw6 hw5 zc5 pc mc zc hw1
  refine region_txt 10 (by kernel_rfl) (by kernel_rfl) ?_; (iterate 10 (first | (apply ObsK.skip (by rfl)) | (apply ObsK.v (by rfl); (intro wo hT; (repeat (first | (intro v hv; (fail)) | (intro _ _ k; try have hcv := cv k))); (have mc := (F6.below hT).cell; have hsz : w5.heap.size ≤ wo.heap.size := Nat.le_trans v6s hT.size); refine Goes.mk ?_; first | (exact goes_app _ _ rfl rfl (OL.below hT) rfl (by assumption) (by omega) hsz) | (go_simp; first | exact goes_v | exact goes_b (by assumption) | fail | (refine goes_enter ?_; first | (go_at_call 46; ((with_reducible refine (two_any z z0 z1 wo).mono ?_); rintro e w9 ⟨A9, c9, rfl, ho9, hB9⟩); exact ret_b ho9.bs hB9) | (go_at_call 46; ((with_reducible refine (two_any call ca0 ca1 wo).mono ?_); rintro e w9 ⟨A9, c9, rfl, ho9, hB9⟩); exact ret_b ho9.bs hB9))))) | (apply ObsK.b (by rfl); (intro wo hT; (repeat (first | (intro v hv; (fail)) | (intro _ _ k; try have hcv := cv k))); (have mc := (F6.below hT).cell; have hsz : w5.heap.size ≤ wo.heap.size := Nat.le_trans v6s hT.size); refine Goes.mk ?_; first | (exact goes_app _ _ rfl rfl (OL.below hT) rfl (by assumption) (by omega) hsz) | (go_simp; first | exact goes_v | exact goes_b (by assumption) | fail | (refine goes_enter ?_; first | (go_at_call 46; ((with_reducible refine (two_any z z0 z1 wo).mono ?_); rintro e w9 ⟨A9, c9, rfl, ho9, hB9⟩); exact ret_b ho9.bs hB9) | (go_at_call 46; ((with_reducible refine (two_any call ca0 ca1 wo).mono ?_); rintro e w9 ⟨A9, c9, rfl, ho9, hB9⟩); exact ret_b ho9.bs hB9))))) | (apply ObsK.p (q := isW w5.heap.size _) (by rfl) st_isW; (intro wo hT; (repeat (first | (intro v hv; (fail)) | (intro _ _ k; try have hcv := cv k))); (have mc := (F6.below hT).cell; have hsz : w5.heap.size ≤ wo.heap.size := Nat.le_trans v6s hT.size); refine Goes.mk ?_; first | (exact goes_app _ _ rfl rfl (OL.below hT) rfl (by assumption) (by omega) hsz) | (go_simp; first | exact goes_v | exact goes_b (by assumption) | fail | (refine goes_enter ?_; first | (go_at_call 46; ((with_reducible refine (two_any z z0 z1 wo).mono ?_); rintro e w9 ⟨A9, c9, rfl, ho9, hB9⟩); exact ret_b ho9.bs hB9) | (go_at_call 46; ((with_reducible refine (two_any call ca0 ca1 wo).mono ?_); rintro e w9 ⟨A9, c9, rfl, ho9, hB9⟩); exact ret_b ho9.bs hB9))))))); refine ObsK.nil ?_; intro wz hBz; simp only [finOn, List.drop_succ_cons, List.drop_zero, List.drop_nil]
  rintro A9 c9 k9 v7 ⟨A7, n7, c7, rfl, O7⟩ A8 c8 k8
  go_simp
  have u7 : n7 = 6 := by rw [← O7.len]; rfl
  subst u7
  have V7 := below_then V6 hBz
  have F7 := F1.below (below_then T5 V7)
  have mc7 := F7.cell
  clear k8
  go_wp2_with (first
    | (at_builtin; refine wpList_append_bs (w0 := w5) _ rfl _ _ _ rfl w5.heap.size 5 Try.underlying24 info_u8 A7 6 c7 _ rfl O7 A9 2 c9 (two call) rfl k9 V7 (by omega) (by first | exact Nat.le_refl _ | exact Below.size V7 | omega | (simp <;> omega)) ?_; intro A10 n10 c10 w10 ho10 hB10 _ hz10; have u10 : n10 = 8 := (by rw [← ho10.len]; rfl); subst u10; rw [H0.out] at ho10; (obtain ⟨g10, rfl, ge10, gt10⟩ := ho10.ptr (by omega)); have a10 := ho10.at_ (i := 0) (by omega); have a11 := ho10.at_ (i := 1) (by omega); have gk10 : k + 1 + 1 < g10 := (by omega); have F10 := F1.below (below_then T5 hB10); have mc10 := F10.cell; have pc10 := (P1.below (below_then T5 hB10)).cell; have zc10 := (Z1.below (below_then T5 hB10)).cell))
  have Tc := below_then T5 hB10
  have Pc := P1.below Tc
  have Fc := F1.below Tc
  have Zc := Z1.below Tc
  have pcc := Pc.cell
  have fcc := Fc.cell
  have zcc := Zc.cell
  have yc := y1.below Tc
  have xc := x1.below Tc
  have gtc := ho10.at_ (i := 0) (by omega)
  have hw1' := hok
  clear hok
  refine regionX 8 [4] g10 (fun c W => match c with | 0 => Own W w5.heap.size 5 (some ⟨g10, 0, none⟩) 8 c10 (grB false false ++ two z ++ two call) | _ + 1 => True) (by kernel_rfl) (by kernel_rfl) (by kernel_rfl) ho10 (fun c W W' hj hb => by cases c with | zero => exact Own.below hj hb | succ n => trivial) ?_; (iterate 8 (first | (apply ObsX.skip (by rfl) (by rfl)) | (apply ObsX.v (by rfl) (by rfl); (intro wo hE; (repeat (first | (intro v hv; ((first | (obtain ⟨Ap, np, cp, rfl, op⟩ := hv; have obp := op.bs) | (obtain ⟨D1, g1, h1', D2, g2, h2', rfl, o13, o14⟩ := hv)))) | (intro _ _ k; try have hcv := cv k))); (have pco := (Pc.ext hE (by omega)).cell; have mco := (Fc.ext hE (by omega)).cell; have xo := x1.below (below_ext Tc hE (by omega) Tc.size); have yo := y1.below (below_ext Tc hE (by omega) Tc.size); have hsz := hE.size); refine Goes.mk ?_; first | (exact goes_appX _ _ rfl rfl hj (fun k e => by simp [Value.ownBlock] at e; exact e.symm) rfl yo (by omega) (by omega) (fun _ => trivial)) | (go_simp; first | exact goes_v | exact goes_pk (by assumption) (by assumption) | (refine goes_enter ?_; first | (go_at_call 41; ((with_reducible refine (hw1' wo Ap np cp xo obp).mono ?_); rintro e w12 ⟨⟨D1, g1, h1', D2, g2, h2', rfl, O13, O14, hB12⟩⟩); exact ret_tup (O13.mono hsz) (O14.mono hsz) hB12))))) | (apply ObsX.p (q := isTup w10.heap.size Q E) (by rfl) (by rfl) st_isTup (sx_isTup (by omega)); (intro wo hE; (repeat (first | (intro v hv; ((first | (obtain ⟨Ap, np, cp, rfl, op⟩ := hv; have obp := op.bs) | (obtain ⟨D1, g1, h1', D2, g2, h2', rfl, o13, o14⟩ := hv)))) | (intro _ _ k; try have hcv := cv k))); (have pco := (Pc.ext hE (by omega)).cell; have mco := (Fc.ext hE (by omega)).cell; have xo := x1.below (below_ext Tc hE (by omega) Tc.size); have yo := y1.below (below_ext Tc hE (by omega) Tc.size); have hsz := hE.size); refine Goes.mk ?_; first | (exact goes_appX _ _ rfl rfl hj (fun k e => by simp [Value.ownBlock] at e; exact e.symm) rfl yo (by omega) (by omega) (fun _ => trivial)) | (go_simp; first | exact goes_v | exact goes_pk (by assumption) (by assumption) | (refine goes_enter ?_; first | (go_at_call 41; ((with_reducible refine (hw1' wo Ap np cp xo obp).mono ?_); rintro e w12 ⟨⟨D1, g1, h1', D2, g2, h2', rfl, O13, O14, hB12⟩⟩); exact ret_tup (O13.mono hsz) (O14.mono hsz) hB12))))) | (apply ObsX.p (q := isPk w10.heap.size Q) (by rfl) (by rfl) st_isPk (sx_isPk (by omega)); (intro wo hE; (repeat (first | (intro v hv; ((first | (obtain ⟨Ap, np, cp, rfl, op⟩ := hv; have obp := op.bs) | (obtain ⟨D1, g1, h1', D2, g2, h2', rfl, o13, o14⟩ := hv)))) | (intro _ _ k; try have hcv := cv k))); (have pco := (Pc.ext hE (by omega)).cell; have mco := (Fc.ext hE (by omega)).cell; have xo := x1.below (below_ext Tc hE (by omega) Tc.size); have yo := y1.below (below_ext Tc hE (by omega) Tc.size); have hsz := hE.size); refine Goes.mk ?_; first | (exact goes_appX _ _ rfl rfl hj (fun k e => by simp [Value.ownBlock] at e; exact e.symm) rfl yo (by omega) (by omega) (fun _ => trivial)) | (go_simp; first | exact goes_v | exact goes_pk (by assumption) (by assumption) | (refine goes_enter ?_; first | (go_at_call 41; ((with_reducible refine (hw1' wo Ap np cp xo obp).mono ?_); rintro e w12 ⟨⟨D1, g1, h1', D2, g2, h2', rfl, O13, O14, hB12⟩⟩); exact ret_tup (O13.mono hsz) (O14.mono hsz) hB12))))) | (apply ObsX.ev (by rfl) (by rfl); (intro wo hE hj; (repeat (first | (intro v hv; ((first | (obtain ⟨Ap, np, cp, rfl, op⟩ := hv; have obp := op.bs) | (obtain ⟨D1, g1, h1', D2, g2, h2', rfl, o13, o14⟩ := hv)))) | (intro _ _ k; try have hcv := cv k))); (have pco := (Pc.ext hE (by omega)).cell; have mco := (Fc.ext hE (by omega)).cell; have xo := x1.below (below_ext Tc hE (by omega) Tc.size); have yo := y1.below (below_ext Tc hE (by omega) Tc.size); have hsz := hE.size); refine GoesX.mk ?_; first | (exact goes_appX _ _ rfl rfl hj (fun k e => by simp [Value.ownBlock] at e; exact e.symm) rfl yo (by omega) (by omega) (fun _ => trivial)) | (go_simp; first | exact goes_v | exact goes_pk (by assumption) (by assumption) | (refine goes_enter ?_; first | (go_at_call 41; ((with_reducible refine (hw1' wo Ap np cp xo obp).mono ?_); rintro e w12 ⟨⟨D1, g1, h1', D2, g2, h2', rfl, O13, O14, hB12⟩⟩); exact ret_tup (O13.mono hsz) (O14.mono hsz) hB12))))) | (apply ObsX.ep (q := isTup w10.heap.size Q E) (by rfl) (by rfl) (by rfl) st_isTup; (intro wo hE hj; (repeat (first | (intro v hv; ((first | (obtain ⟨Ap, np, cp, rfl, op⟩ := hv; have obp := op.bs) | (obtain ⟨D1, g1, h1', D2, g2, h2', rfl, o13, o14⟩ := hv)))) | (intro _ _ k; try have hcv := cv k))); (have pco := (Pc.ext hE (by omega)).cell; have mco := (Fc.ext hE (by omega)).cell; have xo := x1.below (below_ext Tc hE (by omega) Tc.size); have yo := y1.below (below_ext Tc hE (by omega) Tc.size); have hsz := hE.size); refine GoesX.mk ?_; first | (exact goes_appX _ _ rfl rfl hj (fun k e => by simp [Value.ownBlock] at e; exact e.symm) rfl yo (by omega) (by omega) (fun _ => trivial)) | (go_simp; first | exact goes_v | exact goes_pk (by assumption) (by assumption) | (refine goes_enter ?_; first | (go_at_call 41; ((with_reducible refine (hw1' wo Ap np cp xo obp).mono ?_); rintro e w12 ⟨⟨D1, g1, h1', D2, g2, h2', rfl, O13, O14, hB12⟩⟩); exact ret_tup (O13.mono hsz) (O14.mono hsz) hB12))))) | (apply ObsX.ep (q := isPk w10.heap.size Q) (by rfl) (by rfl) (by rfl) st_isPk; (intro wo hE hj; (repeat (first | (intro v hv; ((first | (obtain ⟨Ap, np, cp, rfl, op⟩ := hv; have obp := op.bs) | (obtain ⟨D1, g1, h1', D2, g2, h2', rfl, o13, o14⟩ := hv)))) | (intro _ _ k; try have hcv := cv k))); (have pco := (Pc.ext hE (by omega)).cell; have mco := (Fc.ext hE (by omega)).cell; have xo := x1.below (below_ext Tc hE (by omega) Tc.size); have yo := y1.below (below_ext Tc hE (by omega) Tc.size); have hsz := hE.size); refine GoesX.mk ?_; first | (exact goes_appX _ _ rfl rfl hj (fun k e => by simp [Value.ownBlock] at e; exact e.symm) rfl yo (by omega) (by omega) (fun _ => trivial)) | (go_simp; first | exact goes_v | exact goes_pk (by assumption) (by assumption) | (refine goes_enter ?_; first | (go_at_call 41; ((with_reducible refine (hw1' wo Ap np cp xo obp).mono ?_); rintro e w12 ⟨⟨D1, g1, h1', D2, g2, h2', rfl, O13, O14, hB12⟩⟩); exact ret_tup (O13.mono hsz) (O14.mono hsz) hB12))))) | (apply ObsX.ep (q := isW w5.heap.size _) (by rfl) (by rfl) (by rfl) st_isW; (intro wo hE hj; (repeat (first | (intro v hv; ((first | (obtain ⟨Ap, np, cp, rfl, op⟩ := hv; have obp := op.bs) | (obtain ⟨D1, g1, h1', D2, g2, h2', rfl, o13, o14⟩ := hv)))) | (intro _ _ k; try have hcv := cv k))); (have pco := (Pc.ext hE (by omega)).cell; have mco := (Fc.ext hE (by omega)).cell; have xo := x1.below (below_ext Tc hE (by omega) Tc.size); have yo := y1.below (below_ext Tc hE (by omega) Tc.size); have hsz := hE.size); refine GoesX.mk ?_; first | (exact goes_appX _ _ rfl rfl hj (fun k e => by simp [Value.ownBlock] at e; exact e.symm) rfl yo (by omega) (by omega) (fun _ => trivial)) | (go_simp; first | exact goes_v | exact goes_pk (by assumption) (by assumption) | (refine goes_enter ?_; first | (go_at_call 41; ((with_reducible refine (hw1' wo Ap np cp xo obp).mono ?_); rintro e w12 ⟨⟨D1, g1, h1', D2, g2, h2', rfl, O13, O14, hB12⟩⟩); exact ret_tup (O13.mono hsz) (O14.mono hsz) hB12))))))); refine ObsX.nil ?_; intro wz hEz hJz; simp only [finOn, List.drop_succ_cons, List.drop_zero, List.drop_nil]
  rintro v12 ⟨D1, g1, h1', D2, g2, h2', rfl, O13, O14⟩ v13 hv13 v14 hv14
  clear hv13 hv14
  go_simp
  have Zz := Zc.ext hEz (by omega)
  have zcz := Zz.cell
  have Tz := below_ext Tc hEz (by omega) Tc.size
  have r1s := R1.size
  go_wp2_with fail
  obtain ⟨wf, hwf, Sf⟩ := store9 Zz (.int .u8 Q.tos) (.int .u16 Q.id) (.bool Q.keep) (.int .u8 Q.ttl) (.int .u8 Q.proto) (.int .u32 Q.src) (.int .u32 Q.dst) (.slice D1 g1 h1') (.slice D2 g2 h2')
  rw [hwf]
  have pf := Sf.blk.cell
  have Of := Sf.own O13 (fun a e => by have := O13.ge a e; omega)
  have Df := Sf.own O14 (fun a e => by have := O14.ge a e; omega)
  have tcs := Tc.size
  refine bodyPost_ret (v := .tuple #[(.agg #[.int .u8 (Q).tos, .int .u16 (Q).id, .bool (Q).keep, .int .u8 (Q).ttl, .int .u8 (Q).proto, .int .u32 (Q).src, .int .u32 (Q).dst, .slice D1 g1 h1', .slice D2 g2 h2']), .int .i64 E]) (by simp [results, Try.results17, go_sem, pf]) rfl ⟨⟨D1, g1, h1', D2, g2, h2', rfl, Of.mono (by omega), Df.mono (by omega), Sf.bel (below_then R1 Tz) (by omega)⟩⟩
theorem rbg_long00 (p : Pkt) (A1 : Option Addr) (n1 c1 : Nat) (A2 : Option Addr) (n2 c2 : Nat) (call : Int) (seq ack : Int) (hsq : (seq != 0) = false) (hac : (ack != 0) = false) (dat : List UInt8) (B1 : Option Addr) (m1 d1 : Nat) (w : World) (k1 : Bs w A1 n1 c1 p.opt) (j1 : Bs w B1 m1 d1 dat)
    (hca : 0 ≤ call ∧ call ≤ 65535) (hse : 0 ≤ seq ∧ seq ≤ 4294967295) (hak : 0 ≤ ack ∧ ack ≤ 4294967295) (h1 : (n1 : Int) ≤ 40) (h2 : n1 % 4 = 0) (Q : Pkt) (E : Int) (h3 : 65535 < 20 + (n1 : Int) + 8 + m1) (hQ : Q = zP) (hE8 : E = 8) :
    Calls Try.prog 17 #[(.agg #[.int .u8 (p).tos, .int .u16 (p).id, .bool (p).keep, .int .u8 (p).ttl, .int .u8 (p).proto, .int .u32 (p).src, .int .u32 (p).dst, .slice A1 n1 c1, .slice A2 n2 c2]), .agg #[.int .u16 call, .bool false, .bool false, .int .u32 seq, .int .u32 ack, .slice B1 m1 d1]] w (WiPost w Q E) := by
  have hw0 : ∀ W, Bs W A1 n1 c1 p.opt → Calls Try.prog 41 #[(.agg #[.int .u8 (p).tos, .int .u16 (p).id, .bool (p).keep, .int .u8 (p).ttl, .int .u8 (p).proto, .int .u32 (p).src, .int .u32 (p).dst, .slice A1 n1 c1, .slice A2 n2 c2]), .int .u8 47, .slice none 0 0] W (fun e w' => ∃ C1 e1 f1 C2 e2 f2, e = .returned (.tuple #[.agg #[.int .u8 p.tos, .int .u16 p.id, .bool p.keep, .int .u8 p.ttl, .int .u8 47, .int .u32 p.src, .int .u32 p.dst, .slice C1 e1 f1, .slice C2 e2 f2], .int .i64 0]) ∧ Own w' W.heap.size 5 C1 e1 f1 p.opt ∧ Own w' W.heap.size 5 C2 e2 f2 [] ∧ Below W.heap.size W w') := fun W kk => by
    have hh := rwith_any p A1 n1 c1 A2 n2 c2 47 none 0 0 [] W kk (Bs.none_ W)
    unfold withP at hh
    rw [show ([] : List UInt8).length = 0 from rfl, wiE_0 k1.len h1 h2 (by omega), if_pos rfl] at hh
    exact hh.mono fun e w' hq => hq.out
  have b1 := j1.max
  obtain ⟨ca0, ca1⟩ := hca
  obtain ⟨se0, se1⟩ := hse
  obtain ⟨ak0, ak1⟩ := hak
  obtain ⟨z, hz⟩ : ∃ z : Int, (m1 : Int) % 65536 = z := ⟨_, rfl⟩
  have z0 : 0 ≤ z := by omega
  have z1 : z ≤ 65535 := by omega
  have hzw : IntKind.u16.wrap (m1 : Int) = z := by rw [← hz]; simp [IntKind.wrap, IntKind.signed, IntKind.bits]
  subst hQ hE8
  have L4 := fun W => lit4 (e := 5) (x := 32) (y := 1) (z := 136) (u := 11) (by omega) (by omega) (by omega) (by omega) (by omega) (by omega) (by omega) (by omega) W
  have H0 : Hid ([ub 32, ub 1, ub 136, ub 11] ++ two z ++ two call = grB false false ++ two z ++ two call) := rfl
  obtain ⟨k, hk⟩ : ∃ k : Nat, w.heap.size = k := ⟨_, rfl⟩
  obtain ⟨w1, hw1⟩ : ∃ w1, ((w.alloc (.cells #[.int .u8 (p).tos, .int .u16 (p).id, .bool (p).keep, .int .u8 (p).ttl, .int .u8 (p).proto, .int .u32 (p).src, .int .u32 (p).dst, .slice A1 n1 c1, .slice A2 n2 c2] 26)).alloc (.cells #[.int .u16 call, .bool false, .bool false, .int .u32 seq, .int .u32 ack, .slice B1 m1 d1] 30)).alloc (.cells #[.int .u8 0, .int .u16 0, .bool false, .int .u8 0, .int .u8 0, .int .u32 0, .int .u32 0, .slice none 0 0, .slice none 0 0] 26) = w1 := ⟨_, rfl⟩
  have P1 : Blk w1 k #[.int .u8 (p).tos, .int .u16 (p).id, .bool (p).keep, .int .u8 (p).ttl, .int .u8 (p).proto, .int .u32 (p).src, .int .u32 (p).dst, .slice A1 n1 c1, .slice A2 n2 c2] 26 := by rw [← hw1]; exact ((blk_new w _ _ k hk).alloc _).alloc _
  have F1 : Blk w1 (k + 1) #[.int .u16 call, .bool false, .bool false, .int .u32 seq, .int .u32 ack, .slice B1 m1 d1] 30 := by rw [← hw1]; exact (blk_new _ _ _ (k + 1) (by simp [hk])).alloc _
  have Z1 : Blk w1 (k + 1 + 1) #[.int .u8 0, .int .u16 0, .bool false, .int .u8 0, .int .u8 0, .int .u32 0, .int .u32 0, .slice none 0 0, .slice none 0 0] 26 := by rw [← hw1]; exact blk_new _ _ _ (k + 1 + 1) (by simp [hk])
  have R1 : Below w.heap.size w w1 := by rw [← hw1]; (repeat (first | with_reducible exact Below.refl _ _ | with_reducible refine below_drew ?_ | with_reducible refine below_drewN ?_ _ | with_reducible refine below_alloc ?_ (Nat.le_refl _) _ | with_reducible refine Below.setCell ?_ (by first | exact Nat.le_refl _ | (simp only []; omega)) _ | with_reducible assumption))
  have x1 := k1.below R1
  have y1 := j1.below R1
  have pc := P1.cell
  have mc := F1.cell
  have zc := Z1.cell
  have zl1 := Z1.lt
  go_enter Try.func17, Try.ntmps17
  go_wp2_with (go_at_call 41; ((with_reducible refine (hw0 w1 x1).mono ?_); rintro e w4 ⟨C1, e1, f1, C2, e2, f2, rfl, O1, O2, hB4⟩); (obtain ⟨w5, hw5⟩ : ∃ w5, w4.alloc (.cells #[.int .u8 p.tos, .int .u16 p.id, .bool p.keep, .int .u8 p.ttl, .int .u8 47, .int .u32 p.src, .int .u32 p.dst, .slice C1 e1 f1, .slice C2 e2 f2] 26) = w5 := ⟨_, rfl⟩); have V5 : Below w4.heap.size w4 w5 := (by rw [← hw5]; (repeat (first | with_reducible exact Below.refl _ _ | with_reducible refine below_drew ?_ | with_reducible refine below_drewN ?_ _ | with_reducible refine below_alloc ?_ (Nat.le_refl _) _ | with_reducible refine Below.setCell ?_ (by first | exact Nat.le_refl _ | (simp only []; omega)) _ | with_reducible assumption))); have T5 := below_then hB4 V5; have P5 := P1.below T5; have F5 := F1.below T5; have Z5 := Z1.below T5; have zc5 := Z5.cell)
  obtain ⟨w6, hw6⟩ : ∃ w6, w5.alloc (.cells #[.int .u8 32, .int .u8 1, .int .u8 136, .int .u8 11] 5) = w6 := ⟨_, rfl⟩
  have OL := L4 w5
  have V6 : Below w5.heap.size w5 w6 := by rw [← hw6]; (repeat (first | with_reducible exact Below.refl _ _ | with_reducible refine below_drew ?_ | with_reducible refine below_drewN ?_ _ | with_reducible refine below_alloc ?_ (Nat.le_refl _) _ | with_reducible refine Below.setCell ?_ (by first | exact Nat.le_refl _ | (simp only []; omega)) _ | with_reducible assumption))
  rw [hw6] at OL ⊢
  have T6 := below_then T5 V6
  have F6 := F1.below T6
  have v6s := V6.size
  have v5s := T5.size
  have zl5 := Z5.lt
  clear hw6 hw5 zc5 pc mc zc hw1
  refine region_txt 10 (by kernel_rfl) (by kernel_rfl) ?_; (iterate 10 (first | (apply ObsK.skip (by rfl)) | (apply ObsK.v (by rfl); (intro wo hT; (repeat (first | (intro v hv; (fail)) | (intro _ _ k; try have hcv := cv k))); (have mc := (F6.below hT).cell; have hsz : w5.heap.size ≤ wo.heap.size := Nat.le_trans v6s hT.size); refine Goes.mk ?_; first | (exact goes_app _ _ rfl rfl (OL.below hT) rfl (by assumption) (by omega) hsz) | (go_simp; first | exact goes_v | exact goes_b (by assumption) | fail | (refine goes_enter ?_; first | (go_at_call 46; ((with_reducible refine (two_any z z0 z1 wo).mono ?_); rintro e w9 ⟨A9, c9, rfl, ho9, hB9⟩); exact ret_b ho9.bs hB9) | (go_at_call 46; ((with_reducible refine (two_any call ca0 ca1 wo).mono ?_); rintro e w9 ⟨A9, c9, rfl, ho9, hB9⟩); exact ret_b ho9.bs hB9))))) | (apply ObsK.b (by rfl); (intro wo hT; (repeat (first | (intro v hv; (fail)) | (intro _ _ k; try have hcv := cv k))); (have mc := (F6.below hT).cell; have hsz : w5.heap.size ≤ wo.heap.size := Nat.le_trans v6s hT.size); refine Goes.mk ?_; first | (exact goes_app _ _ rfl rfl (OL.below hT) rfl (by assumption) (by omega) hsz) | (go_simp; first | exact goes_v | exact goes_b (by assumption) | fail | (refine goes_enter ?_; first | (go_at_call 46; ((with_reducible refine (two_any z z0 z1 wo).mono ?_); rintro e w9 ⟨A9, c9, rfl, ho9, hB9⟩); exact ret_b ho9.bs hB9) | (go_at_call 46; ((with_reducible refine (two_any call ca0 ca1 wo).mono ?_); rintro e w9 ⟨A9, c9, rfl, ho9, hB9⟩); exact ret_b ho9.bs hB9))))) | (apply ObsK.p (q := isW w5.heap.size _) (by rfl) st_isW; (intro wo hT; (repeat (first | (intro v hv; (fail)) | (intro _ _ k; try have hcv := cv k))); (have mc := (F6.below hT).cell; have hsz : w5.heap.size ≤ wo.heap.size := Nat.le_trans v6s hT.size); refine Goes.mk ?_; first | (exact goes_app _ _ rfl rfl (OL.below hT) rfl (by assumption) (by omega) hsz) | (go_simp; first | exact goes_v | exact goes_b (by assumption) | fail | (refine goes_enter ?_; first | (go_at_call 46; ((with_reducible refine (two_any z z0 z1 wo).mono ?_); rintro e w9 ⟨A9, c9, rfl, ho9, hB9⟩); exact ret_b ho9.bs hB9) | (go_at_call 46; ((with_reducible refine (two_any call ca0 ca1 wo).mono ?_); rintro e w9 ⟨A9, c9, rfl, ho9, hB9⟩); exact ret_b ho9.bs hB9))))))); refine ObsK.nil ?_; intro wz hBz; simp only [finOn, List.drop_succ_cons, List.drop_zero, List.drop_nil]
  rintro A9 c9 k9 v7 ⟨A7, n7, c7, rfl, O7⟩ A8 c8 k8
  go_simp
  have u7 : n7 = 6 := by rw [← O7.len]; rfl
  subst u7
  have V7 := below_then V6 hBz
  have F7 := F1.below (below_then T5 V7)
  have mc7 := F7.cell
  clear k8
  go_wp2_with (first
    | (at_builtin; refine wpList_append_bs (w0 := w5) _ rfl _ _ _ rfl w5.heap.size 5 Try.underlying24 info_u8 A7 6 c7 _ rfl O7 A9 2 c9 (two call) rfl k9 V7 (by omega) (by first | exact Nat.le_refl _ | exact Below.size V7 | omega | (simp <;> omega)) ?_; intro A10 n10 c10 w10 ho10 hB10 _ hz10; have u10 : n10 = 8 := (by rw [← ho10.len]; rfl); subst u10; rw [H0.out] at ho10; (obtain ⟨g10, rfl, ge10, gt10⟩ := ho10.ptr (by omega)); have a10 := ho10.at_ (i := 0) (by omega); have a11 := ho10.at_ (i := 1) (by omega); have gk10 : k + 1 + 1 < g10 := (by omega); have F10 := F1.below (below_then T5 hB10); have mc10 := F10.cell; have pc10 := (P1.below (below_then T5 hB10)).cell; have zc10 := (Z1.below (below_then T5 hB10)).cell))
  have Tc := below_then T5 hB10
  have Pc := P1.below Tc
  have Fc := F1.below Tc
  have Zc := Z1.below Tc
  have pcc := Pc.cell
  have fcc := Fc.cell
  have zcc := Zc.cell
  have yc := y1.below Tc
  have xc := x1.below Tc
  have gtc := ho10.at_ (i := 0) (by omega)
  obtain ⟨wf, hwf, Sf⟩ := store9 Zc (.int .u8 0) (.int .u16 0) (.bool false) (.int .u8 0) (.int .u8 0) (.int .u32 0) (.int .u32 0) (.slice none 0 0) (.slice none 0 0)
  rw [hwf]
  have pf := Sf.blk.cell
  exact bodyPost_ret (by simp [results, Try.results17, go_sem, pf]) rfl (wiPost_no (Sf.bel (below_then R1 Tc) (by omega)))
theorem rbg_401 (p : Pkt) (A1 : Option Addr) (n1 c1 : Nat) (A2 : Option Addr) (n2 c2 : Nat) (call : Int) (seq ack : Int) (hsq : (seq != 0) = false) (dat : List UInt8) (B1 : Option Addr) (m1 d1 : Nat) (w : World) (k1 : Bs w A1 n1 c1 p.opt) (j1 : Bs w B1 m1 d1 dat)
    (h : 40 < (n1 : Int) ∨ n1 % 4 ≠ 0) :
    Calls Try.prog 17 #[(.agg #[.int .u8 (p).tos, .int .u16 (p).id, .bool (p).keep, .int .u8 (p).ttl, .int .u8 (p).proto, .int .u32 (p).src, .int .u32 (p).dst, .slice A1 n1 c1, .slice A2 n2 c2]), .agg #[.int .u16 call, .bool false, .bool true, .int .u32 seq, .int .u32 ack, .slice B1 m1 d1]] w (WiPost w zP 4) := by
  have hw0 : ∀ W, Bs W A1 n1 c1 p.opt → Calls Try.prog 41 #[(.agg #[.int .u8 (p).tos, .int .u16 (p).id, .bool (p).keep, .int .u8 (p).ttl, .int .u8 (p).proto, .int .u32 (p).src, .int .u32 (p).dst, .slice A1 n1 c1, .slice A2 n2 c2]), .int .u8 47, .slice none 0 0] W (fun e w' => ∃ C1 e1 f1 C2 e2 f2, e = .returned (.tuple #[.agg #[.int .u8 0, .int .u16 0, .bool false, .int .u8 0, .int .u8 0, .int .u32 0, .int .u32 0, .slice C1 e1 f1, .slice C2 e2 f2], .int .i64 4]) ∧ Own w' W.heap.size 5 C1 e1 f1 [] ∧ Own w' W.heap.size 5 C2 e2 f2 [] ∧ Below W.heap.size W w') := fun W kk => by
    have hh := rwith_any p A1 n1 c1 A2 n2 c2 47 none 0 0 [] W kk (Bs.none_ W)
    unfold withP at hh
    rw [wiE_4 k1.len h, if_neg (by decide)] at hh
    exact hh.mono fun e w' hq => hq.out
  have b1 := j1.max
  obtain ⟨k, hk⟩ : ∃ k : Nat, w.heap.size = k := ⟨_, rfl⟩
  obtain ⟨w1, hw1⟩ : ∃ w1, ((w.alloc (.cells #[.int .u8 (p).tos, .int .u16 (p).id, .bool (p).keep, .int .u8 (p).ttl, .int .u8 (p).proto, .int .u32 (p).src, .int .u32 (p).dst, .slice A1 n1 c1, .slice A2 n2 c2] 26)).alloc (.cells #[.int .u16 call, .bool false, .bool true, .int .u32 seq, .int .u32 ack, .slice B1 m1 d1] 30)).alloc (.cells #[.int .u8 0, .int .u16 0, .bool false, .int .u8 0, .int .u8 0, .int .u32 0, .int .u32 0, .slice none 0 0, .slice none 0 0] 26) = w1 := ⟨_, rfl⟩
  have P1 : Blk w1 k #[.int .u8 (p).tos, .int .u16 (p).id, .bool (p).keep, .int .u8 (p).ttl, .int .u8 (p).proto, .int .u32 (p).src, .int .u32 (p).dst, .slice A1 n1 c1, .slice A2 n2 c2] 26 := by rw [← hw1]; exact ((blk_new w _ _ k hk).alloc _).alloc _
  have F1 : Blk w1 (k + 1) #[.int .u16 call, .bool false, .bool true, .int .u32 seq, .int .u32 ack, .slice B1 m1 d1] 30 := by rw [← hw1]; exact (blk_new _ _ _ (k + 1) (by simp [hk])).alloc _
  have Z1 : Blk w1 (k + 1 + 1) #[.int .u8 0, .int .u16 0, .bool false, .int .u8 0, .int .u8 0, .int .u32 0, .int .u32 0, .slice none 0 0, .slice none 0 0] 26 := by rw [← hw1]; exact blk_new _ _ _ (k + 1 + 1) (by simp [hk])
  have R1 : Below w.heap.size w w1 := by rw [← hw1]; (repeat (first | with_reducible exact Below.refl _ _ | with_reducible refine below_drew ?_ | with_reducible refine below_drewN ?_ _ | with_reducible refine below_alloc ?_ (Nat.le_refl _) _ | with_reducible refine Below.setCell ?_ (by first | exact Nat.le_refl _ | (simp only []; omega)) _ | with_reducible assumption))
  have x1 := k1.below R1
  have y1 := j1.below R1
  have pc := P1.cell
  have mc := F1.cell
  have zc := Z1.cell
  have zl1 := Z1.lt
  go_enter Try.func17, Try.ntmps17
  go_wp2_with (go_at_call 41; ((with_reducible refine (hw0 w1 x1).mono ?_); rintro e w4 ⟨C1, e1, f1, C2, e2, f2, rfl, O1, O2, hB4⟩); (obtain ⟨w5, hw5⟩ : ∃ w5, w4.alloc (.cells #[.int .u8 0, .int .u16 0, .bool false, .int .u8 0, .int .u8 0, .int .u32 0, .int .u32 0, .slice C1 e1 f1, .slice C2 e2 f2] 26) = w5 := ⟨_, rfl⟩); have V5 : Below w4.heap.size w4 w5 := (by rw [← hw5]; (repeat (first | with_reducible exact Below.refl _ _ | with_reducible refine below_drew ?_ | with_reducible refine below_drewN ?_ _ | with_reducible refine below_alloc ?_ (Nat.le_refl _) _ | with_reducible refine Below.setCell ?_ (by first | exact Nat.le_refl _ | (simp only []; omega)) _ | with_reducible assumption))); have T5 := below_then hB4 V5; have P5 := P1.below T5; have F5 := F1.below T5; have Z5 := Z1.below T5; have zc5 := Z5.cell)
  obtain ⟨wf, hwf, Sf⟩ := store9 Z5 (.int .u8 0) (.int .u16 0) (.bool false) (.int .u8 0) (.int .u8 0) (.int .u32 0) (.int .u32 0) (.slice none 0 0) (.slice none 0 0)
  rw [hwf]
  have pf := Sf.blk.cell
  exact bodyPost_ret (by simp [results, Try.results17, go_sem, pf]) rfl (wiPost_no (Sf.bel (below_then R1 T5) (by omega)))
theorem rbg_ok01 (p : Pkt) (A1 : Option Addr) (n1 c1 : Nat) (A2 : Option Addr) (n2 c2 : Nat) (call : Int) (seq ack : Int) (hsq : (seq != 0) = false) (dat : List UInt8) (B1 : Option Addr) (m1 d1 : Nat) (w : World) (k1 : Bs w A1 n1 c1 p.opt) (j1 : Bs w B1 m1 d1 dat)
    (hca : 0 ≤ call ∧ call ≤ 65535) (hse : 0 ≤ seq ∧ seq ≤ 4294967295) (hak : 0 ≤ ack ∧ ack ≤ 4294967295) (h1 : (n1 : Int) ≤ 40) (h2 : n1 % 4 = 0) (Q : Pkt) (E : Int) (h3 : 20 + (n1 : Int) + 12 + m1 ≤ 65535) (hok : ∀ W A n c, Bs W A1 n1 c1 p.opt → Bs W A n c (((grB false true ++ two ((m1 : Int) % 65536) ++ two call) ++ four ack) ++ dat) → Calls Try.prog 41 #[(.agg #[.int .u8 (p).tos, .int .u16 (p).id, .bool (p).keep, .int .u8 (p).ttl, .int .u8 (p).proto, .int .u32 (p).src, .int .u32 (p).dst, .slice A1 n1 c1, .slice A2 n2 c2]), .int .u8 47, .slice A n c] W (WiPost W Q E)) :
    Calls Try.prog 17 #[(.agg #[.int .u8 (p).tos, .int .u16 (p).id, .bool (p).keep, .int .u8 (p).ttl, .int .u8 (p).proto, .int .u32 (p).src, .int .u32 (p).dst, .slice A1 n1 c1, .slice A2 n2 c2]), .agg #[.int .u16 call, .bool false, .bool true, .int .u32 seq, .int .u32 ack, .slice B1 m1 d1]] w (WiPost w Q E) := by
  have hw0 : ∀ W, Bs W A1 n1 c1 p.opt → Calls Try.prog 41 #[(.agg #[.int .u8 (p).tos, .int .u16 (p).id, .bool (p).keep, .int .u8 (p).ttl, .int .u8 (p).proto, .int .u32 (p).src, .int .u32 (p).dst, .slice A1 n1 c1, .slice A2 n2 c2]), .int .u8 47, .slice none 0 0] W (fun e w' => ∃ C1 e1 f1 C2 e2 f2, e = .returned (.tuple #[.agg #[.int .u8 p.tos, .int .u16 p.id, .bool p.keep, .int .u8 p.ttl, .int .u8 47, .int .u32 p.src, .int .u32 p.dst, .slice C1 e1 f1, .slice C2 e2 f2], .int .i64 0]) ∧ Own w' W.heap.size 5 C1 e1 f1 p.opt ∧ Own w' W.heap.size 5 C2 e2 f2 [] ∧ Below W.heap.size W w') := fun W kk => by
    have hh := rwith_any p A1 n1 c1 A2 n2 c2 47 none 0 0 [] W kk (Bs.none_ W)
    unfold withP at hh
    rw [show ([] : List UInt8).length = 0 from rfl, wiE_0 k1.len h1 h2 (by omega), if_pos rfl] at hh
    exact hh.mono fun e w' hq => hq.out
  have b1 := j1.max
  obtain ⟨ca0, ca1⟩ := hca
  obtain ⟨se0, se1⟩ := hse
  obtain ⟨ak0, ak1⟩ := hak
  obtain ⟨z, hz⟩ : ∃ z : Int, (m1 : Int) % 65536 = z := ⟨_, rfl⟩
  have z0 : 0 ≤ z := by omega
  have z1 : z ≤ 65535 := by omega
  have hzw : IntKind.u16.wrap (m1 : Int) = z := by rw [← hz]; simp [IntKind.wrap, IntKind.signed, IntKind.bits]
  rw [hz] at hok
  have L4 := fun W => lit4 (e := 5) (x := 32) (y := 1) (z := 136) (u := 11) (by omega) (by omega) (by omega) (by omega) (by omega) (by omega) (by omega) (by omega) W
  have H0 : Hid ([ub 32, ub 1, ub 136, ub 11] ++ two z ++ two call = grB false false ++ two z ++ two call) := rfl
  obtain ⟨k, hk⟩ : ∃ k : Nat, w.heap.size = k := ⟨_, rfl⟩
  obtain ⟨w1, hw1⟩ : ∃ w1, ((w.alloc (.cells #[.int .u8 (p).tos, .int .u16 (p).id, .bool (p).keep, .int .u8 (p).ttl, .int .u8 (p).proto, .int .u32 (p).src, .int .u32 (p).dst, .slice A1 n1 c1, .slice A2 n2 c2] 26)).alloc (.cells #[.int .u16 call, .bool false, .bool true, .int .u32 seq, .int .u32 ack, .slice B1 m1 d1] 30)).alloc (.cells #[.int .u8 0, .int .u16 0, .bool false, .int .u8 0, .int .u8 0, .int .u32 0, .int .u32 0, .slice none 0 0, .slice none 0 0] 26) = w1 := ⟨_, rfl⟩
  have P1 : Blk w1 k #[.int .u8 (p).tos, .int .u16 (p).id, .bool (p).keep, .int .u8 (p).ttl, .int .u8 (p).proto, .int .u32 (p).src, .int .u32 (p).dst, .slice A1 n1 c1, .slice A2 n2 c2] 26 := by rw [← hw1]; exact ((blk_new w _ _ k hk).alloc _).alloc _
  have F1 : Blk w1 (k + 1) #[.int .u16 call, .bool false, .bool true, .int .u32 seq, .int .u32 ack, .slice B1 m1 d1] 30 := by rw [← hw1]; exact (blk_new _ _ _ (k + 1) (by simp [hk])).alloc _
  have Z1 : Blk w1 (k + 1 + 1) #[.int .u8 0, .int .u16 0, .bool false, .int .u8 0, .int .u8 0, .int .u32 0, .int .u32 0, .slice none 0 0, .slice none 0 0] 26 := by rw [← hw1]; exact blk_new _ _ _ (k + 1 + 1) (by simp [hk])
  have R1 : Below w.heap.size w w1 := by rw [← hw1]; (repeat (first | with_reducible exact Below.refl _ _ | with_reducible refine below_drew ?_ | with_reducible refine below_drewN ?_ _ | with_reducible refine below_alloc ?_ (Nat.le_refl _) _ | with_reducible refine Below.setCell ?_ (by first | exact Nat.le_refl _ | (simp only []; omega)) _ | with_reducible assumption))
  have x1 := k1.below R1
  have y1 := j1.below R1
  have pc := P1.cell
  have mc := F1.cell
  have zc := Z1.cell
  have zl1 := Z1.lt
  go_enter Try.func17, Try.ntmps17
  go_wp2_with (go_at_call 41; ((with_reducible refine (hw0 w1 x1).mono ?_); rintro e w4 ⟨C1, e1, f1, C2, e2, f2, rfl, O1, O2, hB4⟩); (obtain ⟨w5, hw5⟩ : ∃ w5, w4.alloc (.cells #[.int .u8 p.tos, .int .u16 p.id, .bool p.keep, .int .u8 p.ttl, .int .u8 47, .int .u32 p.src, .int .u32 p.dst, .slice C1 e1 f1, .slice C2 e2 f2] 26) = w5 := ⟨_, rfl⟩); have V5 : Below w4.heap.size w4 w5 := (by rw [← hw5]; (repeat (first | with_reducible exact Below.refl _ _ | with_reducible refine below_drew ?_ | with_reducible refine below_drewN ?_ _ | with_reducible refine below_alloc ?_ (Nat.le_refl _) _ | with_reducible refine Below.setCell ?_ (by first | exact Nat.le_refl _ | (simp only []; omega)) _ | with_reducible assumption))); have T5 := below_then hB4 V5; have P5 := P1.below T5; have F5 := F1.below T5; have Z5 := Z1.below T5; have zc5 := Z5.cell)
  obtain ⟨w6, hw6⟩ : ∃ w6, w5.alloc (.cells #[.int .u8 32, .int .u8 1, .int .u8 136, .int .u8 11] 5) = w6 := ⟨_, rfl⟩
  have OL := L4 w5
  have V6 : Below w5.heap.size w5 w6 := by rw [← hw6]; (repeat (first | with_reducible exact Below.refl _ _ | with_reducible refine below_drew ?_ | with_reducible refine below_drewN ?_ _ | with_reducible refine below_alloc ?_ (Nat.le_refl _) _ | with_reducible refine Below.setCell ?_ (by first | exact Nat.le_refl _ | (simp only []; omega)) _ | with_reducible assumption))
  rw [hw6] at OL ⊢
  have T6 := below_then T5 V6
  have F6 := F1.below T6
  have v6s := V6.size
  have v5s := T5.size
  have zl5 := Z5.lt
  clear hw6 hw5 zc5 pc mc zc hw1
  refine region_txt 10 (by kernel_rfl) (by kernel_rfl) ?_; (iterate 10 (first | (apply ObsK.skip (by rfl)) | (apply ObsK.v (by rfl); (intro wo hT; (repeat (first | (intro v hv; (fail)) | (intro _ _ k; try have hcv := cv k))); (have mc := (F6.below hT).cell; have hsz : w5.heap.size ≤ wo.heap.size := Nat.le_trans v6s hT.size); refine Goes.mk ?_; first | (exact goes_app _ _ rfl rfl (OL.below hT) rfl (by assumption) (by omega) hsz) | (go_simp; first | exact goes_v | exact goes_b (by assumption) | fail | (refine goes_enter ?_; first | (go_at_call 46; ((with_reducible refine (two_any z z0 z1 wo).mono ?_); rintro e w9 ⟨A9, c9, rfl, ho9, hB9⟩); exact ret_b ho9.bs hB9) | (go_at_call 46; ((with_reducible refine (two_any call ca0 ca1 wo).mono ?_); rintro e w9 ⟨A9, c9, rfl, ho9, hB9⟩); exact ret_b ho9.bs hB9))))) | (apply ObsK.b (by rfl); (intro wo hT; (repeat (first | (intro v hv; (fail)) | (intro _ _ k; try have hcv := cv k))); (have mc := (F6.below hT).cell; have hsz : w5.heap.size ≤ wo.heap.size := Nat.le_trans v6s hT.size); refine Goes.mk ?_; first | (exact goes_app _ _ rfl rfl (OL.below hT) rfl (by assumption) (by omega) hsz) | (go_simp; first | exact goes_v | exact goes_b (by assumption) | fail | (refine goes_enter ?_; first | (go_at_call 46; ((with_reducible refine (two_any z z0 z1 wo).mono ?_); rintro e w9 ⟨A9, c9, rfl, ho9, hB9⟩); exact ret_b ho9.bs hB9) | (go_at_call 46; ((with_reducible refine (two_any call ca0 ca1 wo).mono ?_); rintro e w9 ⟨A9, c9, rfl, ho9, hB9⟩); exact ret_b ho9.bs hB9))))) | (apply ObsK.p (q := isW w5.heap.size _) (by rfl) st_isW; (intro wo hT; (repeat (first | (intro v hv; (fail)) | (intro _ _ k; try have hcv := cv k))); (have mc := (F6.below hT).cell; have hsz : w5.heap.size ≤ wo.heap.size := Nat.le_trans v6s hT.size); refine Goes.mk ?_; first | (exact goes_app _ _ rfl rfl (OL.below hT) rfl (by assumption) (by omega) hsz) | (go_simp; first | exact goes_v | exact goes_b (by assumption) | fail | (refine goes_enter ?_; first | (go_at_call 46; ((with_reducible refine (two_any z z0 z1 wo).mono ?_); rintro e w9 ⟨A9, c9, rfl, ho9, hB9⟩); exact ret_b ho9.bs hB9) | (go_at_call 46; ((with_reducible refine (two_any call ca0 ca1 wo).mono ?_); rintro e w9 ⟨A9, c9, rfl, ho9, hB9⟩); exact ret_b ho9.bs hB9))))))); refine ObsK.nil ?_; intro wz hBz; simp only [finOn, List.drop_succ_cons, List.drop_zero, List.drop_nil]
  rintro A9 c9 k9 v7 ⟨A7, n7, c7, rfl, O7⟩ A8 c8 k8
  go_simp
  have u7 : n7 = 6 := by rw [← O7.len]; rfl
  subst u7
  have V7 := below_then V6 hBz
  have F7 := F1.below (below_then T5 V7)
  have mc7 := F7.cell
  clear k8
  go_wp2_with (first
    | (at_builtin; refine wpList_append_bs (w0 := w5) _ rfl _ _ _ rfl w5.heap.size 5 Try.underlying24 info_u8 A7 6 c7 _ rfl O7 A9 2 c9 (two call) rfl k9 V7 (by omega) (by first | exact Nat.le_refl _ | exact Below.size V7 | omega | (simp <;> omega)) ?_; intro A10 n10 c10 w10 ho10 hB10 _ hz10; have u10 : n10 = 8 := (by rw [← ho10.len]; rfl); subst u10; rw [H0.out] at ho10; (obtain ⟨g10, rfl, ge10, gt10⟩ := ho10.ptr (by omega)); have a10 := ho10.at_ (i := 0) (by omega); have a11 := ho10.at_ (i := 1) (by omega); have gk10 : k + 1 + 1 < g10 := (by omega); have F10 := F1.below (below_then T5 hB10); have mc10 := F10.cell; have pc10 := (P1.below (below_then T5 hB10)).cell; have zc10 := (Z1.below (below_then T5 hB10)).cell))
  have S12 : Own (w10.setCell ⟨g10, 1, none⟩ (.int .u8 129)) w5.heap.size 5 (some ⟨g10, 0, none⟩) 8 c10 (grB false true ++ two z ++ two call) := by
    have := ho10.set_ (i := 1) (by omega) 129 (y := 129) (by omega)
    exact this
  have B12 := hB10.setCell (p := ⟨g10, 1, none⟩) (by omega) (.int .u8 129)
  have M12 := (F1.below (below_then T5 B12)).cell
  have MP12 := (P1.below (below_then T5 B12)).cell
  obtain ⟨w12, hw12⟩ : ∃ w12, w10.setCell ⟨g10, 1, none⟩ (.int .u8 129) = w12 := ⟨_, rfl⟩
  rw [hw12] at S12 B12 M12 MP12 ⊢
  have bs12 := B12.size
  refine (four_any ack ak0 ak1 _).mono ?_
  rintro e w13 ⟨A13, c13, rfl, ho13, hB13⟩
  have S13 := S12.below hB13
  have B13 := below_then B12 hB13
  go_wp2_with (first
    | (at_builtin; refine wpList_append_bs (w0 := w5) _ rfl _ _ _ rfl w5.heap.size 5 Try.underlying24 info_u8 (some ⟨g10, 0, none⟩) 8 c10 _ rfl S13 A13 4 c13 (four ack) rfl ho13.bs B13 (by omega) (by first | exact Nat.le_refl _ | exact Below.size B13 | omega | (simp <;> omega)) ?_; intro A14 n14 c14 w14 ho14 hB14 _ hz14; have u14 : n14 = 12 := (by rw [← ho14.len]; rfl); subst u14; (obtain ⟨g14, rfl, ge14, gt14⟩ := ho14.ptr (by omega)); have a141 := ho14.at_ (i := 1) (by omega); have gk14 : k + 1 + 1 < g14 := (by omega); have F14 := F1.below (below_then T5 hB14); have mc14 := F14.cell; have pc14 := (P1.below (below_then T5 hB14)).cell; have zc14 := (Z1.below (below_then T5 hB14)).cell))
  have Tc := below_then T5 hB14
  have Pc := P1.below Tc
  have Fc := F1.below Tc
  have Zc := Z1.below Tc
  have pcc := Pc.cell
  have fcc := Fc.cell
  have zcc := Zc.cell
  have yc := y1.below Tc
  have xc := x1.below Tc
  have gtc := ho14.at_ (i := 0) (by omega)
  have hw1' := hok
  clear hok
  refine regionX 8 [4] g14 (fun c W => match c with | 0 => Own W w5.heap.size 5 (some ⟨g14, 0, none⟩) 12 c14 ((grB false true ++ two z ++ two call) ++ four ack) | _ + 1 => True) (by kernel_rfl) (by kernel_rfl) (by kernel_rfl) ho14 (fun c W W' hj hb => by cases c with | zero => exact Own.below hj hb | succ n => trivial) ?_; (iterate 8 (first | (apply ObsX.skip (by rfl) (by rfl)) | (apply ObsX.v (by rfl) (by rfl); (intro wo hE; (repeat (first | (intro v hv; ((first | (obtain ⟨Ap, np, cp, rfl, op⟩ := hv; have obp := op.bs) | (obtain ⟨D1, g1, h1', D2, g2, h2', rfl, o13, o14⟩ := hv)))) | (intro _ _ k; try have hcv := cv k))); (have pco := (Pc.ext hE (by omega)).cell; have mco := (Fc.ext hE (by omega)).cell; have xo := x1.below (below_ext Tc hE (by omega) Tc.size); have yo := y1.below (below_ext Tc hE (by omega) Tc.size); have hsz := hE.size); refine Goes.mk ?_; first | (exact goes_appX _ _ rfl rfl hj (fun k e => by simp [Value.ownBlock] at e; exact e.symm) rfl yo (by omega) (by omega) (fun _ => trivial)) | (go_simp; first | exact goes_v | exact goes_pk (by assumption) (by assumption) | (refine goes_enter ?_; first | (go_at_call 41; ((with_reducible refine (hw1' wo Ap np cp xo obp).mono ?_); rintro e w12 ⟨⟨D1, g1, h1', D2, g2, h2', rfl, O13, O14, hB12⟩⟩); exact ret_tup (O13.mono hsz) (O14.mono hsz) hB12))))) | (apply ObsX.p (q := isTup w14.heap.size Q E) (by rfl) (by rfl) st_isTup (sx_isTup (by omega)); (intro wo hE; (repeat (first | (intro v hv; ((first | (obtain ⟨Ap, np, cp, rfl, op⟩ := hv; have obp := op.bs) | (obtain ⟨D1, g1, h1', D2, g2, h2', rfl, o13, o14⟩ := hv)))) | (intro _ _ k; try have hcv := cv k))); (have pco := (Pc.ext hE (by omega)).cell; have mco := (Fc.ext hE (by omega)).cell; have xo := x1.below (below_ext Tc hE (by omega) Tc.size); have yo := y1.below (below_ext Tc hE (by omega) Tc.size); have hsz := hE.size); refine Goes.mk ?_; first | (exact goes_appX _ _ rfl rfl hj (fun k e => by simp [Value.ownBlock] at e; exact e.symm) rfl yo (by omega) (by omega) (fun _ => trivial)) | (go_simp; first | exact goes_v | exact goes_pk (by assumption) (by assumption) | (refine goes_enter ?_; first | (go_at_call 41; ((with_reducible refine (hw1' wo Ap np cp xo obp).mono ?_); rintro e w12 ⟨⟨D1, g1, h1', D2, g2, h2', rfl, O13, O14, hB12⟩⟩); exact ret_tup (O13.mono hsz) (O14.mono hsz) hB12))))) | (apply ObsX.p (q := isPk w14.heap.size Q) (by rfl) (by rfl) st_isPk (sx_isPk (by omega)); (intro wo hE; (repeat (first | (intro v hv; ((first | (obtain ⟨Ap, np, cp, rfl, op⟩ := hv; have obp := op.bs) | (obtain ⟨D1, g1, h1', D2, g2, h2', rfl, o13, o14⟩ := hv)))) | (intro _ _ k; try have hcv := cv k))); (have pco := (Pc.ext hE (by omega)).cell; have mco := (Fc.ext hE (by omega)).cell; have xo := x1.below (below_ext Tc hE (by omega) Tc.size); have yo := y1.below (below_ext Tc hE (by omega) Tc.size); have hsz := hE.size); refine Goes.mk ?_; first | (exact goes_appX _ _ rfl rfl hj (fun k e => by simp [Value.ownBlock] at e; exact e.symm) rfl yo (by omega) (by omega) (fun _ => trivial)) | (go_simp; first | exact goes_v | exact goes_pk (by assumption) (by assumption) | (refine goes_enter ?_; first | (go_at_call 41; ((with_reducible refine (hw1' wo Ap np cp xo obp).mono ?_); rintro e w12 ⟨⟨D1, g1, h1', D2, g2, h2', rfl, O13, O14, hB12⟩⟩); exact ret_tup (O13.mono hsz) (O14.mono hsz) hB12))))) | (apply ObsX.ev (by rfl) (by rfl); (intro wo hE hj; (repeat (first | (intro v hv; ((first | (obtain ⟨Ap, np, cp, rfl, op⟩ := hv; have obp := op.bs) | (obtain ⟨D1, g1, h1', D2, g2, h2', rfl, o13, o14⟩ := hv)))) | (intro _ _ k; try have hcv := cv k))); (have pco := (Pc.ext hE (by omega)).cell; have mco := (Fc.ext hE (by omega)).cell; have xo := x1.below (below_ext Tc hE (by omega) Tc.size); have yo := y1.below (below_ext Tc hE (by omega) Tc.size); have hsz := hE.size); refine GoesX.mk ?_; first | (exact goes_appX _ _ rfl rfl hj (fun k e => by simp [Value.ownBlock] at e; exact e.symm) rfl yo (by omega) (by omega) (fun _ => trivial)) | (go_simp; first | exact goes_v | exact goes_pk (by assumption) (by assumption) | (refine goes_enter ?_; first | (go_at_call 41; ((with_reducible refine (hw1' wo Ap np cp xo obp).mono ?_); rintro e w12 ⟨⟨D1, g1, h1', D2, g2, h2', rfl, O13, O14, hB12⟩⟩); exact ret_tup (O13.mono hsz) (O14.mono hsz) hB12))))) | (apply ObsX.ep (q := isTup w14.heap.size Q E) (by rfl) (by rfl) (by rfl) st_isTup; (intro wo hE hj; (repeat (first | (intro v hv; ((first | (obtain ⟨Ap, np, cp, rfl, op⟩ := hv; have obp := op.bs) | (obtain ⟨D1, g1, h1', D2, g2, h2', rfl, o13, o14⟩ := hv)))) | (intro _ _ k; try have hcv := cv k))); (have pco := (Pc.ext hE (by omega)).cell; have mco := (Fc.ext hE (by omega)).cell; have xo := x1.below (below_ext Tc hE (by omega) Tc.size); have yo := y1.below (below_ext Tc hE (by omega) Tc.size); have hsz := hE.size); refine GoesX.mk ?_; first | (exact goes_appX _ _ rfl rfl hj (fun k e => by simp [Value.ownBlock] at e; exact e.symm) rfl yo (by omega) (by omega) (fun _ => trivial)) | (go_simp; first | exact goes_v | exact goes_pk (by assumption) (by assumption) | (refine goes_enter ?_; first | (go_at_call 41; ((with_reducible refine (hw1' wo Ap np cp xo obp).mono ?_); rintro e w12 ⟨⟨D1, g1, h1', D2, g2, h2', rfl, O13, O14, hB12⟩⟩); exact ret_tup (O13.mono hsz) (O14.mono hsz) hB12))))) | (apply ObsX.ep (q := isPk w14.heap.size Q) (by rfl) (by rfl) (by rfl) st_isPk; (intro wo hE hj; (repeat (first | (intro v hv; ((first | (obtain ⟨Ap, np, cp, rfl, op⟩ := hv; have obp := op.bs) | (obtain ⟨D1, g1, h1', D2, g2, h2', rfl, o13, o14⟩ := hv)))) | (intro _ _ k; try have hcv := cv k))); (have pco := (Pc.ext hE (by omega)).cell; have mco := (Fc.ext hE (by omega)).cell; have xo := x1.below (below_ext Tc hE (by omega) Tc.size); have yo := y1.below (below_ext Tc hE (by omega) Tc.size); have hsz := hE.size); refine GoesX.mk ?_; first | (exact goes_appX _ _ rfl rfl hj (fun k e => by simp [Value.ownBlock] at e; exact e.symm) rfl yo (by omega) (by omega) (fun _ => trivial)) | (go_simp; first | exact goes_v | exact goes_pk (by assumption) (by assumption) | (refine goes_enter ?_; first | (go_at_call 41; ((with_reducible refine (hw1' wo Ap np cp xo obp).mono ?_); rintro e w12 ⟨⟨D1, g1, h1', D2, g2, h2', rfl, O13, O14, hB12⟩⟩); exact ret_tup (O13.mono hsz) (O14.mono hsz) hB12))))) | (apply ObsX.ep (q := isW w5.heap.size _) (by rfl) (by rfl) (by rfl) st_isW; (intro wo hE hj; (repeat (first | (intro v hv; ((first | (obtain ⟨Ap, np, cp, rfl, op⟩ := hv; have obp := op.bs) | (obtain ⟨D1, g1, h1', D2, g2, h2', rfl, o13, o14⟩ := hv)))) | (intro _ _ k; try have hcv := cv k))); (have pco := (Pc.ext hE (by omega)).cell; have mco := (Fc.ext hE (by omega)).cell; have xo := x1.below (below_ext Tc hE (by omega) Tc.size); have yo := y1.below (below_ext Tc hE (by omega) Tc.size); have hsz := hE.size); refine GoesX.mk ?_; first | (exact goes_appX _ _ rfl rfl hj (fun k e => by simp [Value.ownBlock] at e; exact e.symm) rfl yo (by omega) (by omega) (fun _ => trivial)) | (go_simp; first | exact goes_v | exact goes_pk (by assumption) (by assumption) | (refine goes_enter ?_; first | (go_at_call 41; ((with_reducible refine (hw1' wo Ap np cp xo obp).mono ?_); rintro e w12 ⟨⟨D1, g1, h1', D2, g2, h2', rfl, O13, O14, hB12⟩⟩); exact ret_tup (O13.mono hsz) (O14.mono hsz) hB12))))))); refine ObsX.nil ?_; intro wz hEz hJz; simp only [finOn, List.drop_succ_cons, List.drop_zero, List.drop_nil]
  rintro v12 ⟨D1, g1, h1', D2, g2, h2', rfl, O13, O14⟩ v13 hv13 v14 hv14
  clear hv13 hv14
  go_simp
  have Zz := Zc.ext hEz (by omega)
  have zcz := Zz.cell
  have Tz := below_ext Tc hEz (by omega) Tc.size
  have r1s := R1.size
  go_wp2_with fail
  obtain ⟨wf, hwf, Sf⟩ := store9 Zz (.int .u8 Q.tos) (.int .u16 Q.id) (.bool Q.keep) (.int .u8 Q.ttl) (.int .u8 Q.proto) (.int .u32 Q.src) (.int .u32 Q.dst) (.slice D1 g1 h1') (.slice D2 g2 h2')
  rw [hwf]
  have pf := Sf.blk.cell
  have Of := Sf.own O13 (fun a e => by have := O13.ge a e; omega)
  have Df := Sf.own O14 (fun a e => by have := O14.ge a e; omega)
  have tcs := Tc.size
  refine bodyPost_ret (v := .tuple #[(.agg #[.int .u8 (Q).tos, .int .u16 (Q).id, .bool (Q).keep, .int .u8 (Q).ttl, .int .u8 (Q).proto, .int .u32 (Q).src, .int .u32 (Q).dst, .slice D1 g1 h1', .slice D2 g2 h2']), .int .i64 E]) (by simp [results, Try.results17, go_sem, pf]) rfl ⟨⟨D1, g1, h1', D2, g2, h2', rfl, Of.mono (by omega), Df.mono (by omega), Sf.bel (below_then R1 Tz) (by omega)⟩⟩
theorem rbg_long01 (p : Pkt) (A1 : Option Addr) (n1 c1 : Nat) (A2 : Option Addr) (n2 c2 : Nat) (call : Int) (seq ack : Int) (hsq : (seq != 0) = false) (dat : List UInt8) (B1 : Option Addr) (m1 d1 : Nat) (w : World) (k1 : Bs w A1 n1 c1 p.opt) (j1 : Bs w B1 m1 d1 dat)
    (hca : 0 ≤ call ∧ call ≤ 65535) (hse : 0 ≤ seq ∧ seq ≤ 4294967295) (hak : 0 ≤ ack ∧ ack ≤ 4294967295) (h1 : (n1 : Int) ≤ 40) (h2 : n1 % 4 = 0) (Q : Pkt) (E : Int) (h3 : 65535 < 20 + (n1 : Int) + 12 + m1) (hQ : Q = zP) (hE8 : E = 8) :
    Calls Try.prog 17 #[(.agg #[.int .u8 (p).tos, .int .u16 (p).id, .bool (p).keep, .int .u8 (p).ttl, .int .u8 (p).proto, .int .u32 (p).src, .int .u32 (p).dst, .slice A1 n1 c1, .slice A2 n2 c2]), .agg #[.int .u16 call, .bool false, .bool true, .int .u32 seq, .int .u32 ack, .slice B1 m1 d1]] w (WiPost w Q E) := by
  have hw0 : ∀ W, Bs W A1 n1 c1 p.opt → Calls Try.prog 41 #[(.agg #[.int .u8 (p).tos, .int .u16 (p).id, .bool (p).keep, .int .u8 (p).ttl, .int .u8 (p).proto, .int .u32 (p).src, .int .u32 (p).dst, .slice A1 n1 c1, .slice A2 n2 c2]), .int .u8 47, .slice none 0 0] W (fun e w' => ∃ C1 e1 f1 C2 e2 f2, e = .returned (.tuple #[.agg #[.int .u8 p.tos, .int .u16 p.id, .bool p.keep, .int .u8 p.ttl, .int .u8 47, .int .u32 p.src, .int .u32 p.dst, .slice C1 e1 f1, .slice C2 e2 f2], .int .i64 0]) ∧ Own w' W.heap.size 5 C1 e1 f1 p.opt ∧ Own w' W.heap.size 5 C2 e2 f2 [] ∧ Below W.heap.size W w') := fun W kk => by
    have hh := rwith_any p A1 n1 c1 A2 n2 c2 47 none 0 0 [] W kk (Bs.none_ W)
    unfold withP at hh
    rw [show ([] : List UInt8).length = 0 from rfl, wiE_0 k1.len h1 h2 (by omega), if_pos rfl] at hh
    exact hh.mono fun e w' hq => hq.out
  have b1 := j1.max
  obtain ⟨ca0, ca1⟩ := hca
  obtain ⟨se0, se1⟩ := hse
  obtain ⟨ak0, ak1⟩ := hak
  obtain ⟨z, hz⟩ : ∃ z : Int, (m1 : Int) % 65536 = z := ⟨_, rfl⟩
  have z0 : 0 ≤ z := by omega
  have z1 : z ≤ 65535 := by omega
  have hzw : IntKind.u16.wrap (m1 : Int) = z := by rw [← hz]; simp [IntKind.wrap, IntKind.signed, IntKind.bits]
  subst hQ hE8
  have L4 := fun W => lit4 (e := 5) (x := 32) (y := 1) (z := 136) (u := 11) (by omega) (by omega) (by omega) (by omega) (by omega) (by omega) (by omega) (by omega) W
  have H0 : Hid ([ub 32, ub 1, ub 136, ub 11] ++ two z ++ two call = grB false false ++ two z ++ two call) := rfl
  obtain ⟨k, hk⟩ : ∃ k : Nat, w.heap.size = k := ⟨_, rfl⟩
  obtain ⟨w1, hw1⟩ : ∃ w1, ((w.alloc (.cells #[.int .u8 (p).tos, .int .u16 (p).id, .bool (p).keep, .int .u8 (p).ttl, .int .u8 (p).proto, .int .u32 (p).src, .int .u32 (p).dst, .slice A1 n1 c1, .slice A2 n2 c2] 26)).alloc (.cells #[.int .u16 call, .bool false, .bool true, .int .u32 seq, .int .u32 ack, .slice B1 m1 d1] 30)).alloc (.cells #[.int .u8 0, .int .u16 0, .bool false, .int .u8 0, .int .u8 0, .int .u32 0, .int .u32 0, .slice none 0 0, .slice none 0 0] 26) = w1 := ⟨_, rfl⟩
  have P1 : Blk w1 k #[.int .u8 (p).tos, .int .u16 (p).id, .bool (p).keep, .int .u8 (p).ttl, .int .u8 (p).proto, .int .u32 (p).src, .int .u32 (p).dst, .slice A1 n1 c1, .slice A2 n2 c2] 26 := by rw [← hw1]; exact ((blk_new w _ _ k hk).alloc _).alloc _
  have F1 : Blk w1 (k + 1) #[.int .u16 call, .bool false, .bool true, .int .u32 seq, .int .u32 ack, .slice B1 m1 d1] 30 := by rw [← hw1]; exact (blk_new _ _ _ (k + 1) (by simp [hk])).alloc _
  have Z1 : Blk w1 (k + 1 + 1) #[.int .u8 0, .int .u16 0, .bool false, .int .u8 0, .int .u8 0, .int .u32 0, .int .u32 0, .slice none 0 0, .slice none 0 0] 26 := by rw [← hw1]; exact blk_new _ _ _ (k + 1 + 1) (by simp [hk])
  have R1 : Below w.heap.size w w1 := by rw [← hw1]; (repeat (first | with_reducible exact Below.refl _ _ | with_reducible refine below_drew ?_ | with_reducible refine below_drewN ?_ _ | with_reducible refine below_alloc ?_ (Nat.le_refl _) _ | with_reducible refine Below.setCell ?_ (by first | exact Nat.le_refl _ | (simp only []; omega)) _ | with_reducible assumption))
  have x1 := k1.below R1
  have y1 := j1.below R1
  have pc := P1.cell
  have mc := F1.cell
  have zc := Z1.cell
  have zl1 := Z1.lt
  go_enter Try.func17, Try.ntmps17
  go_wp2_with (go_at_call 41; ((with_reducible refine (hw0 w1 x1).mono ?_); rintro e w4 ⟨C1, e1, f1, C2, e2, f2, rfl, O1, O2, hB4⟩); (obtain ⟨w5, hw5⟩ : ∃ w5, w4.alloc (.cells #[.int .u8 p.tos, .int .u16 p.id, .bool p.keep, .int .u8 p.ttl, .int .u8 47, .int .u32 p.src, .int .u32 p.dst, .slice C1 e1 f1, .slice C2 e2 f2] 26) = w5 := ⟨_, rfl⟩); have V5 : Below w4.heap.size w4 w5 := (by rw [← hw5]; (repeat (first | with_reducible exact Below.refl _ _ | with_reducible refine below_drew ?_ | with_reducible refine below_drewN ?_ _ | with_reducible refine below_alloc ?_ (Nat.le_refl _) _ | with_reducible refine Below.setCell ?_ (by first | exact Nat.le_refl _ | (simp only []; omega)) _ | with_reducible assumption))); have T5 := below_then hB4 V5; have P5 := P1.below T5; have F5 := F1.below T5; have Z5 := Z1.below T5; have zc5 := Z5.cell)
  obtain ⟨w6, hw6⟩ : ∃ w6, w5.alloc (.cells #[.int .u8 32, .int .u8 1, .int .u8 136, .int .u8 11] 5) = w6 := ⟨_, rfl⟩
  have OL := L4 w5
  have V6 : Below w5.heap.size w5 w6 := by rw [← hw6]; (repeat (first | with_reducible exact Below.refl _ _ | with_reducible refine below_drew ?_ | with_reducible refine below_drewN ?_ _ | with_reducible refine below_alloc ?_ (Nat.le_refl _) _ | with_reducible refine Below.setCell ?_ (by first | exact Nat.le_refl _ | (simp only []; omega)) _ | with_reducible assumption))
  rw [hw6] at OL ⊢
  have T6 := below_then T5 V6
  have F6 := F1.below T6
  have v6s := V6.size
  have v5s := T5.size
  have zl5 := Z5.lt
  clear hw6 hw5 zc5 pc mc zc hw1
  refine region_txt 10 (by kernel_rfl) (by kernel_rfl) ?_; (iterate 10 (first | (apply ObsK.skip (by rfl)) | (apply ObsK.v (by rfl); (intro wo hT; (repeat (first | (intro v hv; (fail)) | (intro _ _ k; try have hcv := cv k))); (have mc := (F6.below hT).cell; have hsz : w5.heap.size ≤ wo.heap.size := Nat.le_trans v6s hT.size); refine Goes.mk ?_; first | (exact goes_app _ _ rfl rfl (OL.below hT) rfl (by assumption) (by omega) hsz) | (go_simp; first | exact goes_v | exact goes_b (by assumption) | fail | (refine goes_enter ?_; first | (go_at_call 46; ((with_reducible refine (two_any z z0 z1 wo).mono ?_); rintro e w9 ⟨A9, c9, rfl, ho9, hB9⟩); exact ret_b ho9.bs hB9) | (go_at_call 46; ((with_reducible refine (two_any call ca0 ca1 wo).mono ?_); rintro e w9 ⟨A9, c9, rfl, ho9, hB9⟩); exact ret_b ho9.bs hB9))))) | (apply ObsK.b (by rfl); (intro wo hT; (repeat (first | (intro v hv; (fail)) | (intro _ _ k; try have hcv := cv k))); (have mc := (F6.below hT).cell; have hsz : w5.heap.size ≤ wo.heap.size := Nat.le_trans v6s hT.size); refine Goes.mk ?_; first | (exact goes_app _ _ rfl rfl (OL.below hT) rfl (by assumption) (by omega) hsz) | (go_simp; first | exact goes_v | exact goes_b (by assumption) | fail | (refine goes_enter ?_; first | (go_at_call 46; ((with_reducible refine (two_any z z0 z1 wo).mono ?_); rintro e w9 ⟨A9, c9, rfl, ho9, hB9⟩); exact ret_b ho9.bs hB9) | (go_at_call 46; ((with_reducible refine (two_any call ca0 ca1 wo).mono ?_); rintro e w9 ⟨A9, c9, rfl, ho9, hB9⟩); exact ret_b ho9.bs hB9))))) | (apply ObsK.p (q := isW w5.heap.size _) (by rfl) st_isW; (intro wo hT; (repeat (first | (intro v hv; (fail)) | (intro _ _ k; try have hcv := cv k))); (have mc := (F6.below hT).cell; have hsz : w5.heap.size ≤ wo.heap.size := Nat.le_trans v6s hT.size); refine Goes.mk ?_; first | (exact goes_app _ _ rfl rfl (OL.below hT) rfl (by assumption) (by omega) hsz) | (go_simp; first | exact goes_v | exact goes_b (by assumption) | fail | (refine goes_enter ?_; first | (go_at_call 46; ((with_reducible refine (two_any z z0 z1 wo).mono ?_); rintro e w9 ⟨A9, c9, rfl, ho9, hB9⟩); exact ret_b ho9.bs hB9) | (go_at_call 46; ((with_reducible refine (two_any call ca0 ca1 wo).mono ?_); rintro e w9 ⟨A9, c9, rfl, ho9, hB9⟩); exact ret_b ho9.bs hB9))))))); refine ObsK.nil ?_; intro wz hBz; simp only [finOn, List.drop_succ_cons, List.drop_zero, List.drop_nil]
  rintro A9 c9 k9 v7 ⟨A7, n7, c7, rfl, O7⟩ A8 c8 k8
  go_simp
  have u7 : n7 = 6 := by rw [← O7.len]; rfl
  subst u7
  have V7 := below_then V6 hBz
  have F7 := F1.below (below_then T5 V7)
  have mc7 := F7.cell
  clear k8
  go_wp2_with (first
    | (at_builtin; refine wpList_append_bs (w0 := w5) _ rfl _ _ _ rfl w5.heap.size 5 Try.underlying24 info_u8 A7 6 c7 _ rfl O7 A9 2 c9 (two call) rfl k9 V7 (by omega) (by first | exact Nat.le_refl _ | exact Below.size V7 | omega | (simp <;> omega)) ?_; intro A10 n10 c10 w10 ho10 hB10 _ hz10; have u10 : n10 = 8 := (by rw [← ho10.len]; rfl); subst u10; rw [H0.out] at ho10; (obtain ⟨g10, rfl, ge10, gt10⟩ := ho10.ptr (by omega)); have a10 := ho10.at_ (i := 0) (by omega); have a11 := ho10.at_ (i := 1) (by omega); have gk10 : k + 1 + 1 < g10 := (by omega); have F10 := F1.below (below_then T5 hB10); have mc10 := F10.cell; have pc10 := (P1.below (below_then T5 hB10)).cell; have zc10 := (Z1.below (below_then T5 hB10)).cell))
  have S12 : Own (w10.setCell ⟨g10, 1, none⟩ (.int .u8 129)) w5.heap.size 5 (some ⟨g10, 0, none⟩) 8 c10 (grB false true ++ two z ++ two call) := by
    have := ho10.set_ (i := 1) (by omega) 129 (y := 129) (by omega)
    exact this
  have B12 := hB10.setCell (p := ⟨g10, 1, none⟩) (by omega) (.int .u8 129)
  have M12 := (F1.below (below_then T5 B12)).cell
  have MP12 := (P1.below (below_then T5 B12)).cell
  obtain ⟨w12, hw12⟩ : ∃ w12, w10.setCell ⟨g10, 1, none⟩ (.int .u8 129) = w12 := ⟨_, rfl⟩
  rw [hw12] at S12 B12 M12 MP12 ⊢
  have bs12 := B12.size
  refine (four_any ack ak0 ak1 _).mono ?_
  rintro e w13 ⟨A13, c13, rfl, ho13, hB13⟩
  have S13 := S12.below hB13
  have B13 := below_then B12 hB13
  go_wp2_with (first
    | (at_builtin; refine wpList_append_bs (w0 := w5) _ rfl _ _ _ rfl w5.heap.size 5 Try.underlying24 info_u8 (some ⟨g10, 0, none⟩) 8 c10 _ rfl S13 A13 4 c13 (four ack) rfl ho13.bs B13 (by omega) (by first | exact Nat.le_refl _ | exact Below.size B13 | omega | (simp <;> omega)) ?_; intro A14 n14 c14 w14 ho14 hB14 _ hz14; have u14 : n14 = 12 := (by rw [← ho14.len]; rfl); subst u14; (obtain ⟨g14, rfl, ge14, gt14⟩ := ho14.ptr (by omega)); have a141 := ho14.at_ (i := 1) (by omega); have gk14 : k + 1 + 1 < g14 := (by omega); have F14 := F1.below (below_then T5 hB14); have mc14 := F14.cell; have pc14 := (P1.below (below_then T5 hB14)).cell; have zc14 := (Z1.below (below_then T5 hB14)).cell))
  have Tc := below_then T5 hB14
  have Pc := P1.below Tc
  have Fc := F1.below Tc
  have Zc := Z1.below Tc
  have pcc := Pc.cell
  have fcc := Fc.cell
  have zcc := Zc.cell
  have yc := y1.below Tc
  have xc := x1.below Tc
  have gtc := ho14.at_ (i := 0) (by omega)
  obtain ⟨wf, hwf, Sf⟩ := store9 Zc (.int .u8 0) (.int .u16 0) (.bool false) (.int .u8 0) (.int .u8 0) (.int .u32 0) (.int .u32 0) (.slice none 0 0) (.slice none 0 0)
  rw [hwf]
  have pf := Sf.blk.cell
  exact bodyPost_ret (by simp [results, Try.results17, go_sem, pf]) rfl (wiPost_no (Sf.bel (below_then R1 Tc) (by omega)))
theorem rbg_410 (p : Pkt) (A1 : Option Addr) (n1 c1 : Nat) (A2 : Option Addr) (n2 c2 : Nat) (call : Int) (seq ack : Int) (hac : (ack != 0) = false) (dat : List UInt8) (B1 : Option Addr) (m1 d1 : Nat) (w : World) (k1 : Bs w A1 n1 c1 p.opt) (j1 : Bs w B1 m1 d1 dat)
    (h : 40 < (n1 : Int) ∨ n1 % 4 ≠ 0) :
    Calls Try.prog 17 #[(.agg #[.int .u8 (p).tos, .int .u16 (p).id, .bool (p).keep, .int .u8 (p).ttl, .int .u8 (p).proto, .int .u32 (p).src, .int .u32 (p).dst, .slice A1 n1 c1, .slice A2 n2 c2]), .agg #[.int .u16 call, .bool true, .bool false, .int .u32 seq, .int .u32 ack, .slice B1 m1 d1]] w (WiPost w zP 4) := by
  have hw0 : ∀ W, Bs W A1 n1 c1 p.opt → Calls Try.prog 41 #[(.agg #[.int .u8 (p).tos, .int .u16 (p).id, .bool (p).keep, .int .u8 (p).ttl, .int .u8 (p).proto, .int .u32 (p).src, .int .u32 (p).dst, .slice A1 n1 c1, .slice A2 n2 c2]), .int .u8 47, .slice none 0 0] W (fun e w' => ∃ C1 e1 f1 C2 e2 f2, e = .returned (.tuple #[.agg #[.int .u8 0, .int .u16 0, .bool false, .int .u8 0, .int .u8 0, .int .u32 0, .int .u32 0, .slice C1 e1 f1, .slice C2 e2 f2], .int .i64 4]) ∧ Own w' W.heap.size 5 C1 e1 f1 [] ∧ Own w' W.heap.size 5 C2 e2 f2 [] ∧ Below W.heap.size W w') := fun W kk => by
    have hh := rwith_any p A1 n1 c1 A2 n2 c2 47 none 0 0 [] W kk (Bs.none_ W)
    unfold withP at hh
    rw [wiE_4 k1.len h, if_neg (by decide)] at hh
    exact hh.mono fun e w' hq => hq.out
  have b1 := j1.max
  obtain ⟨k, hk⟩ : ∃ k : Nat, w.heap.size = k := ⟨_, rfl⟩
  obtain ⟨w1, hw1⟩ : ∃ w1, ((w.alloc (.cells #[.int .u8 (p).tos, .int .u16 (p).id, .bool (p).keep, .int .u8 (p).ttl, .int .u8 (p).proto, .int .u32 (p).src, .int .u32 (p).dst, .slice A1 n1 c1, .slice A2 n2 c2] 26)).alloc (.cells #[.int .u16 call, .bool true, .bool false, .int .u32 seq, .int .u32 ack, .slice B1 m1 d1] 30)).alloc (.cells #[.int .u8 0, .int .u16 0, .bool false, .int .u8 0, .int .u8 0, .int .u32 0, .int .u32 0, .slice none 0 0, .slice none 0 0] 26) = w1 := ⟨_, rfl⟩
  have P1 : Blk w1 k #[.int .u8 (p).tos, .int .u16 (p).id, .bool (p).keep, .int .u8 (p).ttl, .int .u8 (p).proto, .int .u32 (p).src, .int .u32 (p).dst, .slice A1 n1 c1, .slice A2 n2 c2] 26 := by rw [← hw1]; exact ((blk_new w _ _ k hk).alloc _).alloc _
  have F1 : Blk w1 (k + 1) #[.int .u16 call, .bool true, .bool false, .int .u32 seq, .int .u32 ack, .slice B1 m1 d1] 30 := by rw [← hw1]; exact (blk_new _ _ _ (k + 1) (by simp [hk])).alloc _
  have Z1 : Blk w1 (k + 1 + 1) #[.int .u8 0, .int .u16 0, .bool false, .int .u8 0, .int .u8 0, .int .u32 0, .int .u32 0, .slice none 0 0, .slice none 0 0] 26 := by rw [← hw1]; exact blk_new _ _ _ (k + 1 + 1) (by simp [hk])
  have R1 : Below w.heap.size w w1 := by rw [← hw1]; (repeat (first | with_reducible exact Below.refl _ _ | with_reducible refine below_drew ?_ | with_reducible refine below_drewN ?_ _ | with_reducible refine below_alloc ?_ (Nat.le_refl _) _ | with_reducible refine Below.setCell ?_ (by first | exact Nat.le_refl _ | (simp only []; omega)) _ | with_reducible assumption))
  have x1 := k1.below R1
  have y1 := j1.below R1
  have pc := P1.cell
  have mc := F1.cell
  have zc := Z1.cell
  have zl1 := Z1.lt
  go_enter Try.func17, Try.ntmps17
  go_wp2_with (go_at_call 41; ((with_reducible refine (hw0 w1 x1).mono ?_); rintro e w4 ⟨C1, e1, f1, C2, e2, f2, rfl, O1, O2, hB4⟩); (obtain ⟨w5, hw5⟩ : ∃ w5, w4.alloc (.cells #[.int .u8 0, .int .u16 0, .bool false, .int .u8 0, .int .u8 0, .int .u32 0, .int .u32 0, .slice C1 e1 f1, .slice C2 e2 f2] 26) = w5 := ⟨_, rfl⟩); have V5 : Below w4.heap.size w4 w5 := (by rw [← hw5]; (repeat (first | with_reducible exact Below.refl _ _ | with_reducible refine below_drew ?_ | with_reducible refine below_drewN ?_ _ | with_reducible refine below_alloc ?_ (Nat.le_refl _) _ | with_reducible refine Below.setCell ?_ (by first | exact Nat.le_refl _ | (simp only []; omega)) _ | with_reducible assumption))); have T5 := below_then hB4 V5; have P5 := P1.below T5; have F5 := F1.below T5; have Z5 := Z1.below T5; have zc5 := Z5.cell)
  obtain ⟨wf, hwf, Sf⟩ := store9 Z5 (.int .u8 0) (.int .u16 0) (.bool false) (.int .u8 0) (.int .u8 0) (.int .u32 0) (.int .u32 0) (.slice none 0 0) (.slice none 0 0)
  rw [hwf]
  have pf := Sf.blk.cell
  exact bodyPost_ret (by simp [results, Try.results17, go_sem, pf]) rfl (wiPost_no (Sf.bel (below_then R1 T5) (by omega)))
theorem rbg_ok10 (p : Pkt) (A1 : Option Addr) (n1 c1 : Nat) (A2 : Option Addr) (n2 c2 : Nat) (call : Int) (seq ack : Int) (hac : (ack != 0) = false) (dat : List UInt8) (B1 : Option Addr) (m1 d1 : Nat) (w : World) (k1 : Bs w A1 n1 c1 p.opt) (j1 : Bs w B1 m1 d1 dat)
    (hca : 0 ≤ call ∧ call ≤ 65535) (hse : 0 ≤ seq ∧ seq ≤ 4294967295) (hak : 0 ≤ ack ∧ ack ≤ 4294967295) (h1 : (n1 : Int) ≤ 40) (h2 : n1 % 4 = 0) (Q : Pkt) (E : Int) (h3 : 20 + (n1 : Int) + 12 + m1 ≤ 65535) (hok : ∀ W A n c, Bs W A1 n1 c1 p.opt → Bs W A n c (((grB true false ++ two ((m1 : Int) % 65536) ++ two call) ++ four seq) ++ dat) → Calls Try.prog 41 #[(.agg #[.int .u8 (p).tos, .int .u16 (p).id, .bool (p).keep, .int .u8 (p).ttl, .int .u8 (p).proto, .int .u32 (p).src, .int .u32 (p).dst, .slice A1 n1 c1, .slice A2 n2 c2]), .int .u8 47, .slice A n c] W (WiPost W Q E)) :
    Calls Try.prog 17 #[(.agg #[.int .u8 (p).tos, .int .u16 (p).id, .bool (p).keep, .int .u8 (p).ttl, .int .u8 (p).proto, .int .u32 (p).src, .int .u32 (p).dst, .slice A1 n1 c1, .slice A2 n2 c2]), .agg #[.int .u16 call, .bool true, .bool false, .int .u32 seq, .int .u32 ack, .slice B1 m1 d1]] w (WiPost w Q E) := by
  have hw0 : ∀ W, Bs W A1 n1 c1 p.opt → Calls Try.prog 41 #[(.agg #[.int .u8 (p).tos, .int .u16 (p).id, .bool (p).keep, .int .u8 (p).ttl, .int .u8 (p).proto, .int .u32 (p).src, .int .u32 (p).dst, .slice A1 n1 c1, .slice A2 n2 c2]), .int .u8 47, .slice none 0 0] W (fun e w' => ∃ C1 e1 f1 C2 e2 f2, e = .returned (.tuple #[.agg #[.int .u8 p.tos, .int .u16 p.id, .bool p.keep, .int .u8 p.ttl, .int .u8 47, .int .u32 p.src, .int .u32 p.dst, .slice C1 e1 f1, .slice C2 e2 f2], .int .i64 0]) ∧ Own w' W.heap.size 5 C1 e1 f1 p.opt ∧ Own w' W.heap.size 5 C2 e2 f2 [] ∧ Below W.heap.size W w') := fun W kk => by
    have hh := rwith_any p A1 n1 c1 A2 n2 c2 47 none 0 0 [] W kk (Bs.none_ W)
    unfold withP at hh
    rw [show ([] : List UInt8).length = 0 from rfl, wiE_0 k1.len h1 h2 (by omega), if_pos rfl] at hh
    exact hh.mono fun e w' hq => hq.out
  have b1 := j1.max
  obtain ⟨ca0, ca1⟩ := hca
  obtain ⟨se0, se1⟩ := hse
  obtain ⟨ak0, ak1⟩ := hak
  obtain ⟨z, hz⟩ : ∃ z : Int, (m1 : Int) % 65536 = z := ⟨_, rfl⟩
  have z0 : 0 ≤ z := by omega
  have z1 : z ≤ 65535 := by omega
  have hzw : IntKind.u16.wrap (m1 : Int) = z := by rw [← hz]; simp [IntKind.wrap, IntKind.signed, IntKind.bits]
  rw [hz] at hok
  have L4 := fun W => lit4 (e := 5) (x := 32) (y := 1) (z := 136) (u := 11) (by omega) (by omega) (by omega) (by omega) (by omega) (by omega) (by omega) (by omega) W
  have H0 : Hid ([ub 32, ub 1, ub 136, ub 11] ++ two z ++ two call = grB false false ++ two z ++ two call) := rfl
  obtain ⟨k, hk⟩ : ∃ k : Nat, w.heap.size = k := ⟨_, rfl⟩
  obtain ⟨w1, hw1⟩ : ∃ w1, ((w.alloc (.cells #[.int .u8 (p).tos, .int .u16 (p).id, .bool (p).keep, .int .u8 (p).ttl, .int .u8 (p).proto, .int .u32 (p).src, .int .u32 (p).dst, .slice A1 n1 c1, .slice A2 n2 c2] 26)).alloc (.cells #[.int .u16 call, .bool true, .bool false, .int .u32 seq, .int .u32 ack, .slice B1 m1 d1] 30)).alloc (.cells #[.int .u8 0, .int .u16 0, .bool false, .int .u8 0, .int .u8 0, .int .u32 0, .int .u32 0, .slice none 0 0, .slice none 0 0] 26) = w1 := ⟨_, rfl⟩
  have P1 : Blk w1 k #[.int .u8 (p).tos, .int .u16 (p).id, .bool (p).keep, .int .u8 (p).ttl, .int .u8 (p).proto, .int .u32 (p).src, .int .u32 (p).dst, .slice A1 n1 c1, .slice A2 n2 c2] 26 := by rw [← hw1]; exact ((blk_new w _ _ k hk).alloc _).alloc _
  have F1 : Blk w1 (k + 1) #[.int .u16 call, .bool true, .bool false, .int .u32 seq, .int .u32 ack, .slice B1 m1 d1] 30 := by rw [← hw1]; exact (blk_new _ _ _ (k + 1) (by simp [hk])).alloc _
  have Z1 : Blk w1 (k + 1 + 1) #[.int .u8 0, .int .u16 0, .bool false, .int .u8 0, .int .u8 0, .int .u32 0, .int .u32 0, .slice none 0 0, .slice none 0 0] 26 := by rw [← hw1]; exact blk_new _ _ _ (k + 1 + 1) (by simp [hk])
  have R1 : Below w.heap.size w w1 := by rw [← hw1]; (repeat (first | with_reducible exact Below.refl _ _ | with_reducible refine below_drew ?_ | with_reducible refine below_drewN ?_ _ | with_reducible refine below_alloc ?_ (Nat.le_refl _) _ | with_reducible refine Below.setCell ?_ (by first | exact Nat.le_refl _ | (simp only []; omega)) _ | with_reducible assumption))
  have x1 := k1.below R1
  have y1 := j1.below R1
  have pc := P1.cell
  have mc := F1.cell
  have zc := Z1.cell
  have zl1 := Z1.lt
  go_enter Try.func17, Try.ntmps17
  go_wp2_with (go_at_call 41; ((with_reducible refine (hw0 w1 x1).mono ?_); rintro e w4 ⟨C1, e1, f1, C2, e2, f2, rfl, O1, O2, hB4⟩); (obtain ⟨w5, hw5⟩ : ∃ w5, w4.alloc (.cells #[.int .u8 p.tos, .int .u16 p.id, .bool p.keep, .int .u8 p.ttl, .int .u8 47, .int .u32 p.src, .int .u32 p.dst, .slice C1 e1 f1, .slice C2 e2 f2] 26) = w5 := ⟨_, rfl⟩); have V5 : Below w4.heap.size w4 w5 := (by rw [← hw5]; (repeat (first | with_reducible exact Below.refl _ _ | with_reducible refine below_drew ?_ | with_reducible refine below_drewN ?_ _ | with_reducible refine below_alloc ?_ (Nat.le_refl _) _ | with_reducible refine Below.setCell ?_ (by first | exact Nat.le_refl _ | (simp only []; omega)) _ | with_reducible assumption))); have T5 := below_then hB4 V5; have P5 := P1.below T5; have F5 := F1.below T5; have Z5 := Z1.below T5; have zc5 := Z5.cell)
  obtain ⟨w6, hw6⟩ : ∃ w6, w5.alloc (.cells #[.int .u8 32, .int .u8 1, .int .u8 136, .int .u8 11] 5) = w6 := ⟨_, rfl⟩
  have OL := L4 w5
  have V6 : Below w5.heap.size w5 w6 := by rw [← hw6]; (repeat (first | with_reducible exact Below.refl _ _ | with_reducible refine below_drew ?_ | with_reducible refine below_drewN ?_ _ | with_reducible refine below_alloc ?_ (Nat.le_refl _) _ | with_reducible refine Below.setCell ?_ (by first | exact Nat.le_refl _ | (simp only []; omega)) _ | with_reducible assumption))
  rw [hw6] at OL ⊢
  have T6 := below_then T5 V6
  have F6 := F1.below T6
  have v6s := V6.size
  have v5s := T5.size
  have zl5 := Z5.lt
  clear hw6 hw5 zc5 pc mc zc hw1
  refine region_txt 10 (by kernel_rfl) (by kernel_rfl) ?_; (iterate 10 (first | (apply ObsK.skip (by rfl)) | (apply ObsK.v (by rfl); (intro wo hT; (repeat (first | (intro v hv; (fail)) | (intro _ _ k; try have hcv := cv k))); (have mc := (F6.below hT).cell; have hsz : w5.heap.size ≤ wo.heap.size := Nat.le_trans v6s hT.size); refine Goes.mk ?_; first | (exact goes_app _ _ rfl rfl (OL.below hT) rfl (by assumption) (by omega) hsz) | (go_simp; first | exact goes_v | exact goes_b (by assumption) | fail | (refine goes_enter ?_; first | (go_at_call 46; ((with_reducible refine (two_any z z0 z1 wo).mono ?_); rintro e w9 ⟨A9, c9, rfl, ho9, hB9⟩); exact ret_b ho9.bs hB9) | (go_at_call 46; ((with_reducible refine (two_any call ca0 ca1 wo).mono ?_); rintro e w9 ⟨A9, c9, rfl, ho9, hB9⟩); exact ret_b ho9.bs hB9))))) | (apply ObsK.b (by rfl); (intro wo hT; (repeat (first | (intro v hv; (fail)) | (intro _ _ k; try have hcv := cv k))); (have mc := (F6.below hT).cell; have hsz : w5.heap.size ≤ wo.heap.size := Nat.le_trans v6s hT.size); refine Goes.mk ?_; first | (exact goes_app _ _ rfl rfl (OL.below hT) rfl (by assumption) (by omega) hsz) | (go_simp; first | exact goes_v | exact goes_b (by assumption) | fail | (refine goes_enter ?_; first | (go_at_call 46; ((with_reducible refine (two_any z z0 z1 wo).mono ?_); rintro e w9 ⟨A9, c9, rfl, ho9, hB9⟩); exact ret_b ho9.bs hB9) | (go_at_call 46; ((with_reducible refine (two_any call ca0 ca1 wo).mono ?_); rintro e w9 ⟨A9, c9, rfl, ho9, hB9⟩); exact ret_b ho9.bs hB9))))) | (apply ObsK.p (q := isW w5.heap.size _) (by rfl) st_isW; (intro wo hT; (repeat (first | (intro v hv; (fail)) | (intro _ _ k; try have hcv := cv k))); (have mc := (F6.below hT).cell; have hsz : w5.heap.size ≤ wo.heap.size := Nat.le_trans v6s hT.size); refine Goes.mk ?_; first | (exact goes_app _ _ rfl rfl (OL.below hT) rfl (by assumption) (by omega) hsz) | (go_simp; first | exact goes_v | exact goes_b (by assumption) | fail | (refine goes_enter ?_; first | (go_at_call 46; ((with_reducible refine (two_any z z0 z1 wo).mono ?_); rintro e w9 ⟨A9, c9, rfl, ho9, hB9⟩); exact ret_b ho9.bs hB9) | (go_at_call 46; ((with_reducible refine (two_any call ca0 ca1 wo).mono ?_); rintro e w9 ⟨A9, c9, rfl, ho9, hB9⟩); exact ret_b ho9.bs hB9))))))); refine ObsK.nil ?_; intro wz hBz; simp only [finOn, List.drop_succ_cons, List.drop_zero, List.drop_nil]
  rintro A9 c9 k9 v7 ⟨A7, n7, c7, rfl, O7⟩ A8 c8 k8
  go_simp
  have u7 : n7 = 6 := by rw [← O7.len]; rfl
  subst u7
  have V7 := below_then V6 hBz
  have F7 := F1.below (below_then T5 V7)
  have mc7 := F7.cell
  clear k8
  go_wp2_with (first
    | (at_builtin; refine wpList_append_bs (w0 := w5) _ rfl _ _ _ rfl w5.heap.size 5 Try.underlying24 info_u8 A7 6 c7 _ rfl O7 A9 2 c9 (two call) rfl k9 V7 (by omega) (by first | exact Nat.le_refl _ | exact Below.size V7 | omega | (simp <;> omega)) ?_; intro A10 n10 c10 w10 ho10 hB10 _ hz10; have u10 : n10 = 8 := (by rw [← ho10.len]; rfl); subst u10; rw [H0.out] at ho10; (obtain ⟨g10, rfl, ge10, gt10⟩ := ho10.ptr (by omega)); have a10 := ho10.at_ (i := 0) (by omega); have a11 := ho10.at_ (i := 1) (by omega); have gk10 : k + 1 + 1 < g10 := (by omega); have F10 := F1.below (below_then T5 hB10); have mc10 := F10.cell; have pc10 := (P1.below (below_then T5 hB10)).cell; have zc10 := (Z1.below (below_then T5 hB10)).cell))
  have S12 : Own (w10.setCell ⟨g10, 0, none⟩ (.int .u8 48)) w5.heap.size 5 (some ⟨g10, 0, none⟩) 8 c10 (grB true false ++ two z ++ two call) := by
    have := ho10.set_ (i := 0) (by omega) 48 (y := 48) (by omega)
    exact this
  have B12 := hB10.setCell (p := ⟨g10, 0, none⟩) (by omega) (.int .u8 48)
  have M12 := (F1.below (below_then T5 B12)).cell
  have MP12 := (P1.below (below_then T5 B12)).cell
  obtain ⟨w12, hw12⟩ : ∃ w12, w10.setCell ⟨g10, 0, none⟩ (.int .u8 48) = w12 := ⟨_, rfl⟩
  rw [hw12] at S12 B12 M12 MP12 ⊢
  have bs12 := B12.size
  refine (four_any seq se0 se1 _).mono ?_
  rintro e w13 ⟨A13, c13, rfl, ho13, hB13⟩
  have S13 := S12.below hB13
  have B13 := below_then B12 hB13
  go_wp2_with (first
    | (at_builtin; refine wpList_append_bs (w0 := w5) _ rfl _ _ _ rfl w5.heap.size 5 Try.underlying24 info_u8 (some ⟨g10, 0, none⟩) 8 c10 _ rfl S13 A13 4 c13 (four seq) rfl ho13.bs B13 (by omega) (by first | exact Nat.le_refl _ | exact Below.size B13 | omega | (simp <;> omega)) ?_; intro A14 n14 c14 w14 ho14 hB14 _ hz14; have u14 : n14 = 12 := (by rw [← ho14.len]; rfl); subst u14; (obtain ⟨g14, rfl, ge14, gt14⟩ := ho14.ptr (by omega)); have a141 := ho14.at_ (i := 1) (by omega); have gk14 : k + 1 + 1 < g14 := (by omega); have F14 := F1.below (below_then T5 hB14); have mc14 := F14.cell; have pc14 := (P1.below (below_then T5 hB14)).cell; have zc14 := (Z1.below (below_then T5 hB14)).cell))
  have Tc := below_then T5 hB14
  have Pc := P1.below Tc
  have Fc := F1.below Tc
  have Zc := Z1.below Tc
  have pcc := Pc.cell
  have fcc := Fc.cell
  have zcc := Zc.cell
  have yc := y1.below Tc
  have xc := x1.below Tc
  have gtc := ho14.at_ (i := 0) (by omega)
  have hw1' := hok
  clear hok
  refine regionX 8 [4] g14 (fun c W => match c with | 0 => Own W w5.heap.size 5 (some ⟨g14, 0, none⟩) 12 c14 ((grB true false ++ two z ++ two call) ++ four seq) | _ + 1 => True) (by kernel_rfl) (by kernel_rfl) (by kernel_rfl) ho14 (fun c W W' hj hb => by cases c with | zero => exact Own.below hj hb | succ n => trivial) ?_; (iterate 8 (first | (apply ObsX.skip (by rfl) (by rfl)) | (apply ObsX.v (by rfl) (by rfl); (intro wo hE; (repeat (first | (intro v hv; ((first | (obtain ⟨Ap, np, cp, rfl, op⟩ := hv; have obp := op.bs) | (obtain ⟨D1, g1, h1', D2, g2, h2', rfl, o13, o14⟩ := hv)))) | (intro _ _ k; try have hcv := cv k))); (have pco := (Pc.ext hE (by omega)).cell; have mco := (Fc.ext hE (by omega)).cell; have xo := x1.below (below_ext Tc hE (by omega) Tc.size); have yo := y1.below (below_ext Tc hE (by omega) Tc.size); have hsz := hE.size); refine Goes.mk ?_; first | (exact goes_appX _ _ rfl rfl hj (fun k e => by simp [Value.ownBlock] at e; exact e.symm) rfl yo (by omega) (by omega) (fun _ => trivial)) | (go_simp; first | exact goes_v | exact goes_pk (by assumption) (by assumption) | (refine goes_enter ?_; first | (go_at_call 41; ((with_reducible refine (hw1' wo Ap np cp xo obp).mono ?_); rintro e w12 ⟨⟨D1, g1, h1', D2, g2, h2', rfl, O13, O14, hB12⟩⟩); exact ret_tup (O13.mono hsz) (O14.mono hsz) hB12))))) | (apply ObsX.p (q := isTup w14.heap.size Q E) (by rfl) (by rfl) st_isTup (sx_isTup (by omega)); (intro wo hE; (repeat (first | (intro v hv; ((first | (obtain ⟨Ap, np, cp, rfl, op⟩ := hv; have obp := op.bs) | (obtain ⟨D1, g1, h1', D2, g2, h2', rfl, o13, o14⟩ := hv)))) | (intro _ _ k; try have hcv := cv k))); (have pco := (Pc.ext hE (by omega)).cell; have mco := (Fc.ext hE (by omega)).cell; have xo := x1.below (below_ext Tc hE (by omega) Tc.size); have yo := y1.below (below_ext Tc hE (by omega) Tc.size); have hsz := hE.size); refine Goes.mk ?_; first | (exact goes_appX _ _ rfl rfl hj (fun k e => by simp [Value.ownBlock] at e; exact e.symm) rfl yo (by omega) (by omega) (fun _ => trivial)) | (go_simp; first | exact goes_v | exact goes_pk (by assumption) (by assumption) | (refine goes_enter ?_; first | (go_at_call 41; ((with_reducible refine (hw1' wo Ap np cp xo obp).mono ?_); rintro e w12 ⟨⟨D1, g1, h1', D2, g2, h2', rfl, O13, O14, hB12⟩⟩); exact ret_tup (O13.mono hsz) (O14.mono hsz) hB12))))) | (apply ObsX.p (q := isPk w14.heap.size Q) (by rfl) (by rfl) st_isPk (sx_isPk (by omega)); (intro wo hE; (repeat (first | (intro v hv; ((first | (obtain ⟨Ap, np, cp, rfl, op⟩ := hv; have obp := op.bs) | (obtain ⟨D1, g1, h1', D2, g2, h2', rfl, o13, o14⟩ := hv)))) | (intro _ _ k; try have hcv := cv k))); (have pco := (Pc.ext hE (by omega)).cell; have mco := (Fc.ext hE (by omega)).cell; have xo := x1.below (below_ext Tc hE (by omega) Tc.size); have yo := y1.below (below_ext Tc hE (by omega) Tc.size); have hsz := hE.size); refine Goes.mk ?_; first | (exact goes_appX _ _ rfl rfl hj (fun k e => by simp [Value.ownBlock] at e; exact e.symm) rfl yo (by omega) (by omega) (fun _ => trivial)) | (go_simp; first | exact goes_v | exact goes_pk (by assumption) (by assumption) | (refine goes_enter ?_; first | (go_at_call 41; ((with_reducible refine (hw1' wo Ap np cp xo obp).mono ?_); rintro e w12 ⟨⟨D1, g1, h1', D2, g2, h2', rfl, O13, O14, hB12⟩⟩); exact ret_tup (O13.mono hsz) (O14.mono hsz) hB12))))) | (apply ObsX.ev (by rfl) (by rfl); (intro wo hE hj; (repeat (first | (intro v hv; ((first | (obtain ⟨Ap, np, cp, rfl, op⟩ := hv; have obp := op.bs) | (obtain ⟨D1, g1, h1', D2, g2, h2', rfl, o13, o14⟩ := hv)))) | (intro _ _ k; try have hcv := cv k))); (have pco := (Pc.ext hE (by omega)).cell; have mco := (Fc.ext hE (by omega)).cell; have xo := x1.below (below_ext Tc hE (by omega) Tc.size); have yo := y1.below (below_ext Tc hE (by omega) Tc.size); have hsz := hE.size); refine GoesX.mk ?_; first | (exact goes_appX _ _ rfl rfl hj (fun k e => by simp [Value.ownBlock] at e; exact e.symm) rfl yo (by omega) (by omega) (fun _ => trivial)) | (go_simp; first | exact goes_v | exact goes_pk (by assumption) (by assumption) | (refine goes_enter ?_; first | (go_at_call 41; ((with_reducible refine (hw1' wo Ap np cp xo obp).mono ?_); rintro e w12 ⟨⟨D1, g1, h1', D2, g2, h2', rfl, O13, O14, hB12⟩⟩); exact ret_tup (O13.mono hsz) (O14.mono hsz) hB12))))) | (apply ObsX.ep (q := isTup w14.heap.size Q E) (by rfl) (by rfl) (by rfl) st_isTup; (intro wo hE hj; (repeat (first | (intro v hv; ((first | (obtain ⟨Ap, np, cp, rfl, op⟩ := hv; have obp := op.bs) | (obtain ⟨D1, g1, h1', D2, g2, h2', rfl, o13, o14⟩ := hv)))) | (intro _ _ k; try have hcv := cv k))); (have pco := (Pc.ext hE (by omega)).cell; have mco := (Fc.ext hE (by omega)).cell; have xo := x1.below (below_ext Tc hE (by omega) Tc.size); have yo := y1.below (below_ext Tc hE (by omega) Tc.size); have hsz := hE.size); refine GoesX.mk ?_; first | (exact goes_appX _ _ rfl rfl hj (fun k e => by simp [Value.ownBlock] at e; exact e.symm) rfl yo (by omega) (by omega) (fun _ => trivial)) | (go_simp; first | exact goes_v | exact goes_pk (by assumption) (by assumption) | (refine goes_enter ?_; first | (go_at_call 41; ((with_reducible refine (hw1' wo Ap np cp xo obp).mono ?_); rintro e w12 ⟨⟨D1, g1, h1', D2, g2, h2', rfl, O13, O14, hB12⟩⟩); exact ret_tup (O13.mono hsz) (O14.mono hsz) hB12))))) | (apply ObsX.ep (q := isPk w14.heap.size Q) (by rfl) (by rfl) (by rfl) st_isPk; (intro wo hE hj; (repeat (first | (intro v hv; ((first | (obtain ⟨Ap, np, cp, rfl, op⟩ := hv; have obp := op.bs) | (obtain ⟨D1, g1, h1', D2, g2, h2', rfl, o13, o14⟩ := hv)))) | (intro _ _ k; try have hcv := cv k))); (have pco := (Pc.ext hE (by omega)).cell; have mco := (Fc.ext hE (by omega)).cell; have xo := x1.below (below_ext Tc hE (by omega) Tc.size); have yo := y1.below (below_ext Tc hE (by omega) Tc.size); have hsz := hE.size); refine GoesX.mk ?_; first | (exact goes_appX _ _ rfl rfl hj (fun k e => by simp [Value.ownBlock] at e; exact e.symm) rfl yo (by omega) (by omega) (fun _ => trivial)) | (go_simp; first | exact goes_v | exact goes_pk (by assumption) (by assumption) | (refine goes_enter ?_; first | (go_at_call 41; ((with_reducible refine (hw1' wo Ap np cp xo obp).mono ?_); rintro e w12 ⟨⟨D1, g1, h1', D2, g2, h2', rfl, O13, O14, hB12⟩⟩); exact ret_tup (O13.mono hsz) (O14.mono hsz) hB12))))) | (apply ObsX.ep (q := isW w5.heap.size _) (by rfl) (by rfl) (by rfl) st_isW; (intro wo hE hj; (repeat (first | (intro v hv; ((first | (obtain ⟨Ap, np, cp, rfl, op⟩ := hv; have obp := op.bs) | (obtain ⟨D1, g1, h1', D2, g2, h2', rfl, o13, o14⟩ := hv)))) | (intro _ _ k; try have hcv := cv k))); (have pco := (Pc.ext hE (by omega)).cell; have mco := (Fc.ext hE (by omega)).cell; have xo := x1.below (below_ext Tc hE (by omega) Tc.size); have yo := y1.below (below_ext Tc hE (by omega) Tc.size); have hsz := hE.size); refine GoesX.mk ?_; first | (exact goes_appX _ _ rfl rfl hj (fun k e => by simp [Value.ownBlock] at e; exact e.symm) rfl yo (by omega) (by omega) (fun _ => trivial)) | (go_simp; first | exact goes_v | exact goes_pk (by assumption) (by assumption) | (refine goes_enter ?_; first | (go_at_call 41; ((with_reducible refine (hw1' wo Ap np cp xo obp).mono ?_); rintro e w12 ⟨⟨D1, g1, h1', D2, g2, h2', rfl, O13, O14, hB12⟩⟩); exact ret_tup (O13.mono hsz) (O14.mono hsz) hB12))))))); refine ObsX.nil ?_; intro wz hEz hJz; simp only [finOn, List.drop_succ_cons, List.drop_zero, List.drop_nil]
  rintro v12 ⟨D1, g1, h1', D2, g2, h2', rfl, O13, O14⟩ v13 hv13 v14 hv14
  clear hv13 hv14
  go_simp
  have Zz := Zc.ext hEz (by omega)
  have zcz := Zz.cell
  have Tz := below_ext Tc hEz (by omega) Tc.size
  have r1s := R1.size
  go_wp2_with fail
  obtain ⟨wf, hwf, Sf⟩ := store9 Zz (.int .u8 Q.tos) (.int .u16 Q.id) (.bool Q.keep) (.int .u8 Q.ttl) (.int .u8 Q.proto) (.int .u32 Q.src) (.int .u32 Q.dst) (.slice D1 g1 h1') (.slice D2 g2 h2')
  rw [hwf]
  have pf := Sf.blk.cell
  have Of := Sf.own O13 (fun a e => by have := O13.ge a e; omega)
  have Df := Sf.own O14 (fun a e => by have := O14.ge a e; omega)
  have tcs := Tc.size
  refine bodyPost_ret (v := .tuple #[(.agg #[.int .u8 (Q).tos, .int .u16 (Q).id, .bool (Q).keep, .int .u8 (Q).ttl, .int .u8 (Q).proto, .int .u32 (Q).src, .int .u32 (Q).dst, .slice D1 g1 h1', .slice D2 g2 h2']), .int .i64 E]) (by simp [results, Try.results17, go_sem, pf]) rfl ⟨⟨D1, g1, h1', D2, g2, h2', rfl, Of.mono (by omega), Df.mono (by omega), Sf.bel (below_then R1 Tz) (by omega)⟩⟩
theorem rbg_long10 (p : Pkt) (A1 : Option Addr) (n1 c1 : Nat) (A2 : Option Addr) (n2 c2 : Nat) (call : Int) (seq ack : Int) (hac : (ack != 0) = false) (dat : List UInt8) (B1 : Option Addr) (m1 d1 : Nat) (w : World) (k1 : Bs w A1 n1 c1 p.opt) (j1 : Bs w B1 m1 d1 dat)
    (hca : 0 ≤ call ∧ call ≤ 65535) (hse : 0 ≤ seq ∧ seq ≤ 4294967295) (hak : 0 ≤ ack ∧ ack ≤ 4294967295) (h1 : (n1 : Int) ≤ 40) (h2 : n1 % 4 = 0) (Q : Pkt) (E : Int) (h3 : 65535 < 20 + (n1 : Int) + 12 + m1) (hQ : Q = zP) (hE8 : E = 8) :
    Calls Try.prog 17 #[(.agg #[.int .u8 (p).tos, .int .u16 (p).id, .bool (p).keep, .int .u8 (p).ttl, .int .u8 (p).proto, .int .u32 (p).src, .int .u32 (p).dst, .slice A1 n1 c1, .slice A2 n2 c2]), .agg #[.int .u16 call, .bool true, .bool false, .int .u32 seq, .int .u32 ack, .slice B1 m1 d1]] w (WiPost w Q E) := by
  have hw0 : ∀ W, Bs W A1 n1 c1 p.opt → Calls Try.prog 41 #[(.agg #[.int .u8 (p).tos, .int .u16 (p).id, .bool (p).keep, .int .u8 (p).ttl, .int .u8 (p).proto, .int .u32 (p).src, .int .u32 (p).dst, .slice A1 n1 c1, .slice A2 n2 c2]), .int .u8 47, .slice none 0 0] W (fun e w' => ∃ C1 e1 f1 C2 e2 f2, e = .returned (.tuple #[.agg #[.int .u8 p.tos, .int .u16 p.id, .bool p.keep, .int .u8 p.ttl, .int .u8 47, .int .u32 p.src, .int .u32 p.dst, .slice C1 e1 f1, .slice C2 e2 f2], .int .i64 0]) ∧ Own w' W.heap.size 5 C1 e1 f1 p.opt ∧ Own w' W.heap.size 5 C2 e2 f2 [] ∧ Below W.heap.size W w') := fun W kk => by
    have hh := rwith_any p A1 n1 c1 A2 n2 c2 47 none 0 0 [] W kk (Bs.none_ W)
    unfold withP at hh
    rw [show ([] : List UInt8).length = 0 from rfl, wiE_0 k1.len h1 h2 (by omega), if_pos rfl] at hh
    exact hh.mono fun e w' hq => hq.out
  have b1 := j1.max
  obtain ⟨ca0, ca1⟩ := hca
  obtain ⟨se0, se1⟩ := hse
  obtain ⟨ak0, ak1⟩ := hak
  obtain ⟨z, hz⟩ : ∃ z : Int, (m1 : Int) % 65536 = z := ⟨_, rfl⟩
  have z0 : 0 ≤ z := by omega
  have z1 : z ≤ 65535 := by omega
  have hzw : IntKind.u16.wrap (m1 : Int) = z := by rw [← hz]; simp [IntKind.wrap, IntKind.signed, IntKind.bits]
  subst hQ hE8
  have L4 := fun W => lit4 (e := 5) (x := 32) (y := 1) (z := 136) (u := 11) (by omega) (by omega) (by omega) (by omega) (by omega) (by omega) (by omega) (by omega) W
  have H0 : Hid ([ub 32, ub 1, ub 136, ub 11] ++ two z ++ two call = grB false false ++ two z ++ two call) := rfl
  obtain ⟨k, hk⟩ : ∃ k : Nat, w.heap.size = k := ⟨_, rfl⟩
  obtain ⟨w1, hw1⟩ : ∃ w1, ((w.alloc (.cells #[.int .u8 (p).tos, .int .u16 (p).id, .bool (p).keep, .int .u8 (p).ttl, .int .u8 (p).proto, .int .u32 (p).src, .int .u32 (p).dst, .slice A1 n1 c1, .slice A2 n2 c2] 26)).alloc (.cells #[.int .u16 call, .bool true, .bool false, .int .u32 seq, .int .u32 ack, .slice B1 m1 d1] 30)).alloc (.cells #[.int .u8 0, .int .u16 0, .bool false, .int .u8 0, .int .u8 0, .int .u32 0, .int .u32 0, .slice none 0 0, .slice none 0 0] 26) = w1 := ⟨_, rfl⟩
  have P1 : Blk w1 k #[.int .u8 (p).tos, .int .u16 (p).id, .bool (p).keep, .int .u8 (p).ttl, .int .u8 (p).proto, .int .u32 (p).src, .int .u32 (p).dst, .slice A1 n1 c1, .slice A2 n2 c2] 26 := by rw [← hw1]; exact ((blk_new w _ _ k hk).alloc _).alloc _
  have F1 : Blk w1 (k + 1) #[.int .u16 call, .bool true, .bool false, .int .u32 seq, .int .u32 ack, .slice B1 m1 d1] 30 := by rw [← hw1]; exact (blk_new _ _ _ (k + 1) (by simp [hk])).alloc _
  have Z1 : Blk w1 (k + 1 + 1) #[.int .u8 0, .int .u16 0, .bool false, .int .u8 0, .int .u8 0, .int .u32 0, .int .u32 0, .slice none 0 0, .slice none 0 0] 26 := by rw [← hw1]; exact blk_new _ _ _ (k + 1 + 1) (by simp [hk])
  have R1 : Below w.heap.size w w1 := by rw [← hw1]; (repeat (first | with_reducible exact Below.refl _ _ | with_reducible refine below_drew ?_ | with_reducible refine below_drewN ?_ _ | with_reducible refine below_alloc ?_ (Nat.le_refl _) _ | with_reducible refine Below.setCell ?_ (by first | exact Nat.le_refl _ | (simp only []; omega)) _ | with_reducible assumption))
  have x1 := k1.below R1
  have y1 := j1.below R1
  have pc := P1.cell
  have mc := F1.cell
  have zc := Z1.cell
  have zl1 := Z1.lt
  go_enter Try.func17, Try.ntmps17
  go_wp2_with (go_at_call 41; ((with_reducible refine (hw0 w1 x1).mono ?_); rintro e w4 ⟨C1, e1, f1, C2, e2, f2, rfl, O1, O2, hB4⟩); (obtain ⟨w5, hw5⟩ : ∃ w5, w4.alloc (.cells #[.int .u8 p.tos, .int .u16 p.id, .bool p.keep, .int .u8 p.ttl, .int .u8 47, .int .u32 p.src, .int .u32 p.dst, .slice C1 e1 f1, .slice C2 e2 f2] 26) = w5 := ⟨_, rfl⟩); have V5 : Below w4.heap.size w4 w5 := (by rw [← hw5]; (repeat (first | with_reducible exact Below.refl _ _ | with_reducible refine below_drew ?_ | with_reducible refine below_drewN ?_ _ | with_reducible refine below_alloc ?_ (Nat.le_refl _) _ | with_reducible refine Below.setCell ?_ (by first | exact Nat.le_refl _ | (simp only []; omega)) _ | with_reducible assumption))); have T5 := below_then hB4 V5; have P5 := P1.below T5; have F5 := F1.below T5; have Z5 := Z1.below T5; have zc5 := Z5.cell)
  obtain ⟨w6, hw6⟩ : ∃ w6, w5.alloc (.cells #[.int .u8 32, .int .u8 1, .int .u8 136, .int .u8 11] 5) = w6 := ⟨_, rfl⟩
  have OL := L4 w5
  have V6 : Below w5.heap.size w5 w6 := by rw [← hw6]; (repeat (first | with_reducible exact Below.refl _ _ | with_reducible refine below_drew ?_ | with_reducible refine below_drewN ?_ _ | with_reducible refine below_alloc ?_ (Nat.le_refl _) _ | with_reducible refine Below.setCell ?_ (by first | exact Nat.le_refl _ | (simp only []; omega)) _ | with_reducible assumption))
  rw [hw6] at OL ⊢
  have T6 := below_then T5 V6
  have F6 := F1.below T6
  have v6s := V6.size
  have v5s := T5.size
  have zl5 := Z5.lt
  clear hw6 hw5 zc5 pc mc zc hw1
  refine region_txt 10 (by kernel_rfl) (by kernel_rfl) ?_; (iterate 10 (first | (apply ObsK.skip (by rfl)) | (apply ObsK.v (by rfl); (intro wo hT; (repeat (first | (intro v hv; (fail)) | (intro _ _ k; try have hcv := cv k))); (have mc := (F6.below hT).cell; have hsz : w5.heap.size ≤ wo.heap.size := Nat.le_trans v6s hT.size); refine Goes.mk ?_; first | (exact goes_app _ _ rfl rfl (OL.below hT) rfl (by assumption) (by omega) hsz) | (go_simp; first | exact goes_v | exact goes_b (by assumption) | fail | (refine goes_enter ?_; first | (go_at_call 46; ((with_reducible refine (two_any z z0 z1 wo).mono ?_); rintro e w9 ⟨A9, c9, rfl, ho9, hB9⟩); exact ret_b ho9.bs hB9) | (go_at_call 46; ((with_reducible refine (two_any call ca0 ca1 wo).mono ?_); rintro e w9 ⟨A9, c9, rfl, ho9, hB9⟩); exact ret_b ho9.bs hB9))))) | (apply ObsK.b (by rfl); (intro wo hT; (repeat (first | (intro v hv; (fail)) | (intro _ _ k; try have hcv := cv k))); (have mc := (F6.below hT).cell; have hsz : w5.heap.size ≤ wo.heap.size := Nat.le_trans v6s hT.size); refine Goes.mk ?_; first | (exact goes_app _ _ rfl rfl (OL.below hT) rfl (by assumption) (by omega) hsz) | (go_simp; first | exact goes_v | exact goes_b (by assumption) | fail | (refine goes_enter ?_; first | (go_at_call 46; ((with_reducible refine (two_any z z0 z1 wo).mono ?_); rintro e w9 ⟨A9, c9, rfl, ho9, hB9⟩); exact ret_b ho9.bs hB9) | (go_at_call 46; ((with_reducible refine (two_any call ca0 ca1 wo).mono ?_); rintro e w9 ⟨A9, c9, rfl, ho9, hB9⟩); exact ret_b ho9.bs hB9))))) | (apply ObsK.p (q := isW w5.heap.size _) (by rfl) st_isW; (intro wo hT; (repeat (first | (intro v hv; (fail)) | (intro _ _ k; try have hcv := cv k))); (have mc := (F6.below hT).cell; have hsz : w5.heap.size ≤ wo.heap.size := Nat.le_trans v6s hT.size); refine Goes.mk ?_; first | (exact goes_app _ _ rfl rfl (OL.below hT) rfl (by assumption) (by omega) hsz) | (go_simp; first | exact goes_v | exact goes_b (by assumption) | fail | (refine goes_enter ?_; first | (go_at_call 46; ((with_reducible refine (two_any z z0 z1 wo).mono ?_); rintro e w9 ⟨A9, c9, rfl, ho9, hB9⟩); exact ret_b ho9.bs hB9) | (go_at_call 46; ((with_reducible refine (two_any call ca0 ca1 wo).mono ?_); rintro e w9 ⟨A9, c9, rfl, ho9, hB9⟩); exact ret_b ho9.bs hB9))))))); refine ObsK.nil ?_; intro wz hBz; simp only [finOn, List.drop_succ_cons, List.drop_zero, List.drop_nil]
  rintro A9 c9 k9 v7 ⟨A7, n7, c7, rfl, O7⟩ A8 c8 k8
  go_simp
  have u7 : n7 = 6 := by rw [← O7.len]; rfl
  subst u7
  have V7 := below_then V6 hBz
  have F7 := F1.below (below_then T5 V7)
  have mc7 := F7.cell
  clear k8
  go_wp2_with (first
    | (at_builtin; refine wpList_append_bs (w0 := w5) _ rfl _ _ _ rfl w5.heap.size 5 Try.underlying24 info_u8 A7 6 c7 _ rfl O7 A9 2 c9 (two call) rfl k9 V7 (by omega) (by first | exact Nat.le_refl _ | exact Below.size V7 | omega | (simp <;> omega)) ?_; intro A10 n10 c10 w10 ho10 hB10 _ hz10; have u10 : n10 = 8 := (by rw [← ho10.len]; rfl); subst u10; rw [H0.out] at ho10; (obtain ⟨g10, rfl, ge10, gt10⟩ := ho10.ptr (by omega)); have a10 := ho10.at_ (i := 0) (by omega); have a11 := ho10.at_ (i := 1) (by omega); have gk10 : k + 1 + 1 < g10 := (by omega); have F10 := F1.below (below_then T5 hB10); have mc10 := F10.cell; have pc10 := (P1.below (below_then T5 hB10)).cell; have zc10 := (Z1.below (below_then T5 hB10)).cell))
  have S12 : Own (w10.setCell ⟨g10, 0, none⟩ (.int .u8 48)) w5.heap.size 5 (some ⟨g10, 0, none⟩) 8 c10 (grB true false ++ two z ++ two call) := by
    have := ho10.set_ (i := 0) (by omega) 48 (y := 48) (by omega)
    exact this
  have B12 := hB10.setCell (p := ⟨g10, 0, none⟩) (by omega) (.int .u8 48)
  have M12 := (F1.below (below_then T5 B12)).cell
  have MP12 := (P1.below (below_then T5 B12)).cell
  obtain ⟨w12, hw12⟩ : ∃ w12, w10.setCell ⟨g10, 0, none⟩ (.int .u8 48) = w12 := ⟨_, rfl⟩
  rw [hw12] at S12 B12 M12 MP12 ⊢
  have bs12 := B12.size
  refine (four_any seq se0 se1 _).mono ?_
  rintro e w13 ⟨A13, c13, rfl, ho13, hB13⟩
  have S13 := S12.below hB13
  have B13 := below_then B12 hB13
  go_wp2_with (first
    | (at_builtin; refine wpList_append_bs (w0 := w5) _ rfl _ _ _ rfl w5.heap.size 5 Try.underlying24 info_u8 (some ⟨g10, 0, none⟩) 8 c10 _ rfl S13 A13 4 c13 (four seq) rfl ho13.bs B13 (by omega) (by first | exact Nat.le_refl _ | exact Below.size B13 | omega | (simp <;> omega)) ?_; intro A14 n14 c14 w14 ho14 hB14 _ hz14; have u14 : n14 = 12 := (by rw [← ho14.len]; rfl); subst u14; (obtain ⟨g14, rfl, ge14, gt14⟩ := ho14.ptr (by omega)); have a141 := ho14.at_ (i := 1) (by omega); have gk14 : k + 1 + 1 < g14 := (by omega); have F14 := F1.below (below_then T5 hB14); have mc14 := F14.cell; have pc14 := (P1.below (below_then T5 hB14)).cell; have zc14 := (Z1.below (below_then T5 hB14)).cell))
  have Tc := below_then T5 hB14
  have Pc := P1.below Tc
  have Fc := F1.below Tc
  have Zc := Z1.below Tc
  have pcc := Pc.cell
  have fcc := Fc.cell
  have zcc := Zc.cell
  have yc := y1.below Tc
  have xc := x1.below Tc
  have gtc := ho14.at_ (i := 0) (by omega)
  obtain ⟨wf, hwf, Sf⟩ := store9 Zc (.int .u8 0) (.int .u16 0) (.bool false) (.int .u8 0) (.int .u8 0) (.int .u32 0) (.int .u32 0) (.slice none 0 0) (.slice none 0 0)
  rw [hwf]
  have pf := Sf.blk.cell
  exact bodyPost_ret (by simp [results, Try.results17, go_sem, pf]) rfl (wiPost_no (Sf.bel (below_then R1 Tc) (by omega)))
theorem rbg_411 (p : Pkt) (A1 : Option Addr) (n1 c1 : Nat) (A2 : Option Addr) (n2 c2 : Nat) (call : Int) (seq ack : Int) (dat : List UInt8) (B1 : Option Addr) (m1 d1 : Nat) (w : World) (k1 : Bs w A1 n1 c1 p.opt) (j1 : Bs w B1 m1 d1 dat)
    (h : 40 < (n1 : Int) ∨ n1 % 4 ≠ 0) :
    Calls Try.prog 17 #[(.agg #[.int .u8 (p).tos, .int .u16 (p).id, .bool (p).keep, .int .u8 (p).ttl, .int .u8 (p).proto, .int .u32 (p).src, .int .u32 (p).dst, .slice A1 n1 c1, .slice A2 n2 c2]), .agg #[.int .u16 call, .bool true, .bool true, .int .u32 seq, .int .u32 ack, .slice B1 m1 d1]] w (WiPost w zP 4) := by
  have hw0 : ∀ W, Bs W A1 n1 c1 p.opt → Calls Try.prog 41 #[(.agg #[.int .u8 (p).tos, .int .u16 (p).id, .bool (p).keep, .int .u8 (p).ttl, .int .u8 (p).proto, .int .u32 (p).src, .int .u32 (p).dst, .slice A1 n1 c1, .slice A2 n2 c2]), .int .u8 47, .slice none 0 0] W (fun e w' => ∃ C1 e1 f1 C2 e2 f2, e = .returned (.tuple #[.agg #[.int .u8 0, .int .u16 0, .bool false, .int .u8 0, .int .u8 0, .int .u32 0, .int .u32 0, .slice C1 e1 f1, .slice C2 e2 f2], .int .i64 4]) ∧ Own w' W.heap.size 5 C1 e1 f1 [] ∧ Own w' W.heap.size 5 C2 e2 f2 [] ∧ Below W.heap.size W w') := fun W kk => by
    have hh := rwith_any p A1 n1 c1 A2 n2 c2 47 none 0 0 [] W kk (Bs.none_ W)
    unfold withP at hh
    rw [wiE_4 k1.len h, if_neg (by decide)] at hh
    exact hh.mono fun e w' hq => hq.out
  have b1 := j1.max
  obtain ⟨k, hk⟩ : ∃ k : Nat, w.heap.size = k := ⟨_, rfl⟩
  obtain ⟨w1, hw1⟩ : ∃ w1, ((w.alloc (.cells #[.int .u8 (p).tos, .int .u16 (p).id, .bool (p).keep, .int .u8 (p).ttl, .int .u8 (p).proto, .int .u32 (p).src, .int .u32 (p).dst, .slice A1 n1 c1, .slice A2 n2 c2] 26)).alloc (.cells #[.int .u16 call, .bool true, .bool true, .int .u32 seq, .int .u32 ack, .slice B1 m1 d1] 30)).alloc (.cells #[.int .u8 0, .int .u16 0, .bool false, .int .u8 0, .int .u8 0, .int .u32 0, .int .u32 0, .slice none 0 0, .slice none 0 0] 26) = w1 := ⟨_, rfl⟩
  have P1 : Blk w1 k #[.int .u8 (p).tos, .int .u16 (p).id, .bool (p).keep, .int .u8 (p).ttl, .int .u8 (p).proto, .int .u32 (p).src, .int .u32 (p).dst, .slice A1 n1 c1, .slice A2 n2 c2] 26 := by rw [← hw1]; exact ((blk_new w _ _ k hk).alloc _).alloc _
  have F1 : Blk w1 (k + 1) #[.int .u16 call, .bool true, .bool true, .int .u32 seq, .int .u32 ack, .slice B1 m1 d1] 30 := by rw [← hw1]; exact (blk_new _ _ _ (k + 1) (by simp [hk])).alloc _
  have Z1 : Blk w1 (k + 1 + 1) #[.int .u8 0, .int .u16 0, .bool false, .int .u8 0, .int .u8 0, .int .u32 0, .int .u32 0, .slice none 0 0, .slice none 0 0] 26 := by rw [← hw1]; exact blk_new _ _ _ (k + 1 + 1) (by simp [hk])
  have R1 : Below w.heap.size w w1 := by rw [← hw1]; (repeat (first | with_reducible exact Below.refl _ _ | with_reducible refine below_drew ?_ | with_reducible refine below_drewN ?_ _ | with_reducible refine below_alloc ?_ (Nat.le_refl _) _ | with_reducible refine Below.setCell ?_ (by first | exact Nat.le_refl _ | (simp only []; omega)) _ | with_reducible assumption))
  have x1 := k1.below R1
  have y1 := j1.below R1
  have pc := P1.cell
  have mc := F1.cell
  have zc := Z1.cell
  have zl1 := Z1.lt
  go_enter Try.func17, Try.ntmps17
  go_wp2_with (go_at_call 41; ((with_reducible refine (hw0 w1 x1).mono ?_); rintro e w4 ⟨C1, e1, f1, C2, e2, f2, rfl, O1, O2, hB4⟩); (obtain ⟨w5, hw5⟩ : ∃ w5, w4.alloc (.cells #[.int .u8 0, .int .u16 0, .bool false, .int .u8 0, .int .u8 0, .int .u32 0, .int .u32 0, .slice C1 e1 f1, .slice C2 e2 f2] 26) = w5 := ⟨_, rfl⟩); have V5 : Below w4.heap.size w4 w5 := (by rw [← hw5]; (repeat (first | with_reducible exact Below.refl _ _ | with_reducible refine below_drew ?_ | with_reducible refine below_drewN ?_ _ | with_reducible refine below_alloc ?_ (Nat.le_refl _) _ | with_reducible refine Below.setCell ?_ (by first | exact Nat.le_refl _ | (simp only []; omega)) _ | with_reducible assumption))); have T5 := below_then hB4 V5; have P5 := P1.below T5; have F5 := F1.below T5; have Z5 := Z1.below T5; have zc5 := Z5.cell)
  obtain ⟨wf, hwf, Sf⟩ := store9 Z5 (.int .u8 0) (.int .u16 0) (.bool false) (.int .u8 0) (.int .u8 0) (.int .u32 0) (.int .u32 0) (.slice none 0 0) (.slice none 0 0)
  rw [hwf]
  have pf := Sf.blk.cell
  exact bodyPost_ret (by simp [results, Try.results17, go_sem, pf]) rfl (wiPost_no (Sf.bel (below_then R1 T5) (by omega)))
theorem rbg_ok11 (p : Pkt) (A1 : Option Addr) (n1 c1 : Nat) (A2 : Option Addr) (n2 c2 : Nat) (call : Int) (seq ack : Int) (dat : List UInt8) (B1 : Option Addr) (m1 d1 : Nat) (w : World) (k1 : Bs w A1 n1 c1 p.opt) (j1 : Bs w B1 m1 d1 dat)
    (hca : 0 ≤ call ∧ call ≤ 65535) (hse : 0 ≤ seq ∧ seq ≤ 4294967295) (hak : 0 ≤ ack ∧ ack ≤ 4294967295) (h1 : (n1 : Int) ≤ 40) (h2 : n1 % 4 = 0) (Q : Pkt) (E : Int) (h3 : 20 + (n1 : Int) + 16 + m1 ≤ 65535) (hok : ∀ W A n c, Bs W A1 n1 c1 p.opt → Bs W A n c ((((grB true true ++ two ((m1 : Int) % 65536) ++ two call) ++ four seq) ++ four ack) ++ dat) → Calls Try.prog 41 #[(.agg #[.int .u8 (p).tos, .int .u16 (p).id, .bool (p).keep, .int .u8 (p).ttl, .int .u8 (p).proto, .int .u32 (p).src, .int .u32 (p).dst, .slice A1 n1 c1, .slice A2 n2 c2]), .int .u8 47, .slice A n c] W (WiPost W Q E)) :
    Calls Try.prog 17 #[(.agg #[.int .u8 (p).tos, .int .u16 (p).id, .bool (p).keep, .int .u8 (p).ttl, .int .u8 (p).proto, .int .u32 (p).src, .int .u32 (p).dst, .slice A1 n1 c1, .slice A2 n2 c2]), .agg #[.int .u16 call, .bool true, .bool true, .int .u32 seq, .int .u32 ack, .slice B1 m1 d1]] w (WiPost w Q E) := by
  have hw0 : ∀ W, Bs W A1 n1 c1 p.opt → Calls Try.prog 41 #[(.agg #[.int .u8 (p).tos, .int .u16 (p).id, .bool (p).keep, .int .u8 (p).ttl, .int .u8 (p).proto, .int .u32 (p).src, .int .u32 (p).dst, .slice A1 n1 c1, .slice A2 n2 c2]), .int .u8 47, .slice none 0 0] W (fun e w' => ∃ C1 e1 f1 C2 e2 f2, e = .returned (.tuple #[.agg #[.int .u8 p.tos, .int .u16 p.id, .bool p.keep, .int .u8 p.ttl, .int .u8 47, .int .u32 p.src, .int .u32 p.dst, .slice C1 e1 f1, .slice C2 e2 f2], .int .i64 0]) ∧ Own w' W.heap.size 5 C1 e1 f1 p.opt ∧ Own w' W.heap.size 5 C2 e2 f2 [] ∧ Below W.heap.size W w') := fun W kk => by
    have hh := rwith_any p A1 n1 c1 A2 n2 c2 47 none 0 0 [] W kk (Bs.none_ W)
    unfold withP at hh
    rw [show ([] : List UInt8).length = 0 from rfl, wiE_0 k1.len h1 h2 (by omega), if_pos rfl] at hh
    exact hh.mono fun e w' hq => hq.out
  have b1 := j1.max
  obtain ⟨ca0, ca1⟩ := hca
  obtain ⟨se0, se1⟩ := hse
  obtain ⟨ak0, ak1⟩ := hak
  obtain ⟨z, hz⟩ : ∃ z : Int, (m1 : Int) % 65536 = z := ⟨_, rfl⟩
  have z0 : 0 ≤ z := by omega
  have z1 : z ≤ 65535 := by omega
  have hzw : IntKind.u16.wrap (m1 : Int) = z := by rw [← hz]; simp [IntKind.wrap, IntKind.signed, IntKind.bits]
  rw [hz] at hok
  have L4 := fun W => lit4 (e := 5) (x := 32) (y := 1) (z := 136) (u := 11) (by omega) (by omega) (by omega) (by omega) (by omega) (by omega) (by omega) (by omega) W
  have H0 : Hid ([ub 32, ub 1, ub 136, ub 11] ++ two z ++ two call = grB false false ++ two z ++ two call) := rfl
  obtain ⟨k, hk⟩ : ∃ k : Nat, w.heap.size = k := ⟨_, rfl⟩
  obtain ⟨w1, hw1⟩ : ∃ w1, ((w.alloc (.cells #[.int .u8 (p).tos, .int .u16 (p).id, .bool (p).keep, .int .u8 (p).ttl, .int .u8 (p).proto, .int .u32 (p).src, .int .u32 (p).dst, .slice A1 n1 c1, .slice A2 n2 c2] 26)).alloc (.cells #[.int .u16 call, .bool true, .bool true, .int .u32 seq, .int .u32 ack, .slice B1 m1 d1] 30)).alloc (.cells #[.int .u8 0, .int .u16 0, .bool false, .int .u8 0, .int .u8 0, .int .u32 0, .int .u32 0, .slice none 0 0, .slice none 0 0] 26) = w1 := ⟨_, rfl⟩
  have P1 : Blk w1 k #[.int .u8 (p).tos, .int .u16 (p).id, .bool (p).keep, .int .u8 (p).ttl, .int .u8 (p).proto, .int .u32 (p).src, .int .u32 (p).dst, .slice A1 n1 c1, .slice A2 n2 c2] 26 := by rw [← hw1]; exact ((blk_new w _ _ k hk).alloc _).alloc _
  have F1 : Blk w1 (k + 1) #[.int .u16 call, .bool true, .bool true, .int .u32 seq, .int .u32 ack, .slice B1 m1 d1] 30 := by rw [← hw1]; exact (blk_new _ _ _ (k + 1) (by simp [hk])).alloc _
  have Z1 : Blk w1 (k + 1 + 1) #[.int .u8 0, .int .u16 0, .bool false, .int .u8 0, .int .u8 0, .int .u32 0, .int .u32 0, .slice none 0 0, .slice none 0 0] 26 := by rw [← hw1]; exact blk_new _ _ _ (k + 1 + 1) (by simp [hk])
  have R1 : Below w.heap.size w w1 := by rw [← hw1]; (repeat (first | with_reducible exact Below.refl _ _ | with_reducible refine below_drew ?_ | with_reducible refine below_drewN ?_ _ | with_reducible refine below_alloc ?_ (Nat.le_refl _) _ | with_reducible refine Below.setCell ?_ (by first | exact Nat.le_refl _ | (simp only []; omega)) _ | with_reducible assumption))
  have x1 := k1.below R1
  have y1 := j1.below R1
  have pc := P1.cell
  have mc := F1.cell
  have zc := Z1.cell
  have zl1 := Z1.lt
  go_enter Try.func17, Try.ntmps17
  go_wp2_with (go_at_call 41; ((with_reducible refine (hw0 w1 x1).mono ?_); rintro e w4 ⟨C1, e1, f1, C2, e2, f2, rfl, O1, O2, hB4⟩); (obtain ⟨w5, hw5⟩ : ∃ w5, w4.alloc (.cells #[.int .u8 p.tos, .int .u16 p.id, .bool p.keep, .int .u8 p.ttl, .int .u8 47, .int .u32 p.src, .int .u32 p.dst, .slice C1 e1 f1, .slice C2 e2 f2] 26) = w5 := ⟨_, rfl⟩); have V5 : Below w4.heap.size w4 w5 := (by rw [← hw5]; (repeat (first | with_reducible exact Below.refl _ _ | with_reducible refine below_drew ?_ | with_reducible refine below_drewN ?_ _ | with_reducible refine below_alloc ?_ (Nat.le_refl _) _ | with_reducible refine Below.setCell ?_ (by first | exact Nat.le_refl _ | (simp only []; omega)) _ | with_reducible assumption))); have T5 := below_then hB4 V5; have P5 := P1.below T5; have F5 := F1.below T5; have Z5 := Z1.below T5; have zc5 := Z5.cell)
  obtain ⟨w6, hw6⟩ : ∃ w6, w5.alloc (.cells #[.int .u8 32, .int .u8 1, .int .u8 136, .int .u8 11] 5) = w6 := ⟨_, rfl⟩
  have OL := L4 w5
  have V6 : Below w5.heap.size w5 w6 := by rw [← hw6]; (repeat (first | with_reducible exact Below.refl _ _ | with_reducible refine below_drew ?_ | with_reducible refine below_drewN ?_ _ | with_reducible refine below_alloc ?_ (Nat.le_refl _) _ | with_reducible refine Below.setCell ?_ (by first | exact Nat.le_refl _ | (simp only []; omega)) _ | with_reducible assumption))
  rw [hw6] at OL ⊢
  have T6 := below_then T5 V6
  have F6 := F1.below T6
  have v6s := V6.size
  have v5s := T5.size
  have zl5 := Z5.lt
  clear hw6 hw5 zc5 pc mc zc hw1
  refine region_txt 10 (by kernel_rfl) (by kernel_rfl) ?_; (iterate 10 (first | (apply ObsK.skip (by rfl)) | (apply ObsK.v (by rfl); (intro wo hT; (repeat (first | (intro v hv; (fail)) | (intro _ _ k; try have hcv := cv k))); (have mc := (F6.below hT).cell; have hsz : w5.heap.size ≤ wo.heap.size := Nat.le_trans v6s hT.size); refine Goes.mk ?_; first | (exact goes_app _ _ rfl rfl (OL.below hT) rfl (by assumption) (by omega) hsz) | (go_simp; first | exact goes_v | exact goes_b (by assumption) | fail | (refine goes_enter ?_; first | (go_at_call 46; ((with_reducible refine (two_any z z0 z1 wo).mono ?_); rintro e w9 ⟨A9, c9, rfl, ho9, hB9⟩); exact ret_b ho9.bs hB9) | (go_at_call 46; ((with_reducible refine (two_any call ca0 ca1 wo).mono ?_); rintro e w9 ⟨A9, c9, rfl, ho9, hB9⟩); exact ret_b ho9.bs hB9))))) | (apply ObsK.b (by rfl); (intro wo hT; (repeat (first | (intro v hv; (fail)) | (intro _ _ k; try have hcv := cv k))); (have mc := (F6.below hT).cell; have hsz : w5.heap.size ≤ wo.heap.size := Nat.le_trans v6s hT.size); refine Goes.mk ?_; first | (exact goes_app _ _ rfl rfl (OL.below hT) rfl (by assumption) (by omega) hsz) | (go_simp; first | exact goes_v | exact goes_b (by assumption) | fail | (refine goes_enter ?_; first | (go_at_call 46; ((with_reducible refine (two_any z z0 z1 wo).mono ?_); rintro e w9 ⟨A9, c9, rfl, ho9, hB9⟩); exact ret_b ho9.bs hB9) | (go_at_call 46; ((with_reducible refine (two_any call ca0 ca1 wo).mono ?_); rintro e w9 ⟨A9, c9, rfl, ho9, hB9⟩); exact ret_b ho9.bs hB9))))) | (apply ObsK.p (q := isW w5.heap.size _) (by rfl) st_isW; (intro wo hT; (repeat (first | (intro v hv; (fail)) | (intro _ _ k; try have hcv := cv k))); (have mc := (F6.below hT).cell; have hsz : w5.heap.size ≤ wo.heap.size := Nat.le_trans v6s hT.size); refine Goes.mk ?_; first | (exact goes_app _ _ rfl rfl (OL.below hT) rfl (by assumption) (by omega) hsz) | (go_simp; first | exact goes_v | exact goes_b (by assumption) | fail | (refine goes_enter ?_; first | (go_at_call 46; ((with_reducible refine (two_any z z0 z1 wo).mono ?_); rintro e w9 ⟨A9, c9, rfl, ho9, hB9⟩); exact ret_b ho9.bs hB9) | (go_at_call 46; ((with_reducible refine (two_any call ca0 ca1 wo).mono ?_); rintro e w9 ⟨A9, c9, rfl, ho9, hB9⟩); exact ret_b ho9.bs hB9))))))); refine ObsK.nil ?_; intro wz hBz; simp only [finOn, List.drop_succ_cons, List.drop_zero, List.drop_nil]
  rintro A9 c9 k9 v7 ⟨A7, n7, c7, rfl, O7⟩ A8 c8 k8
  go_simp
  have u7 : n7 = 6 := by rw [← O7.len]; rfl
  subst u7
  have V7 := below_then V6 hBz
  have F7 := F1.below (below_then T5 V7)
  have mc7 := F7.cell
  clear k8
  go_wp2_with (first
    | (at_builtin; refine wpList_append_bs (w0 := w5) _ rfl _ _ _ rfl w5.heap.size 5 Try.underlying24 info_u8 A7 6 c7 _ rfl O7 A9 2 c9 (two call) rfl k9 V7 (by omega) (by first | exact Nat.le_refl _ | exact Below.size V7 | omega | (simp <;> omega)) ?_; intro A10 n10 c10 w10 ho10 hB10 _ hz10; have u10 : n10 = 8 := (by rw [← ho10.len]; rfl); subst u10; rw [H0.out] at ho10; (obtain ⟨g10, rfl, ge10, gt10⟩ := ho10.ptr (by omega)); have a10 := ho10.at_ (i := 0) (by omega); have a11 := ho10.at_ (i := 1) (by omega); have gk10 : k + 1 + 1 < g10 := (by omega); have F10 := F1.below (below_then T5 hB10); have mc10 := F10.cell; have pc10 := (P1.below (below_then T5 hB10)).cell; have zc10 := (Z1.below (below_then T5 hB10)).cell))
  have S12 : Own (w10.setCell ⟨g10, 0, none⟩ (.int .u8 48)) w5.heap.size 5 (some ⟨g10, 0, none⟩) 8 c10 (grB true false ++ two z ++ two call) := by
    have := ho10.set_ (i := 0) (by omega) 48 (y := 48) (by omega)
    exact this
  have B12 := hB10.setCell (p := ⟨g10, 0, none⟩) (by omega) (.int .u8 48)
  have M12 := (F1.below (below_then T5 B12)).cell
  have MP12 := (P1.below (below_then T5 B12)).cell
  obtain ⟨w12, hw12⟩ : ∃ w12, w10.setCell ⟨g10, 0, none⟩ (.int .u8 48) = w12 := ⟨_, rfl⟩
  rw [hw12] at S12 B12 M12 MP12 ⊢
  have bs12 := B12.size
  refine (four_any seq se0 se1 _).mono ?_
  rintro e w13 ⟨A13, c13, rfl, ho13, hB13⟩
  have S13 := S12.below hB13
  have B13 := below_then B12 hB13
  go_wp2_with (first
    | (at_builtin; refine wpList_append_bs (w0 := w5) _ rfl _ _ _ rfl w5.heap.size 5 Try.underlying24 info_u8 (some ⟨g10, 0, none⟩) 8 c10 _ rfl S13 A13 4 c13 (four seq) rfl ho13.bs B13 (by omega) (by first | exact Nat.le_refl _ | exact Below.size B13 | omega | (simp <;> omega)) ?_; intro A14 n14 c14 w14 ho14 hB14 _ hz14; have u14 : n14 = 12 := (by rw [← ho14.len]; rfl); subst u14; (obtain ⟨g14, rfl, ge14, gt14⟩ := ho14.ptr (by omega)); have a141 := ho14.at_ (i := 1) (by omega); have gk14 : k + 1 + 1 < g14 := (by omega); have F14 := F1.below (below_then T5 hB14); have mc14 := F14.cell; have pc14 := (P1.below (below_then T5 hB14)).cell; have zc14 := (Z1.below (below_then T5 hB14)).cell))
  have S16 : Own (w14.setCell ⟨g14, 1, none⟩ (.int .u8 129)) w5.heap.size 5 (some ⟨g14, 0, none⟩) 12 c14 ((grB true true ++ two z ++ two call) ++ four seq) := by
    have := ho14.set_ (i := 1) (by omega) 129 (y := 129) (by omega)
    exact this
  have B16 := hB14.setCell (p := ⟨g14, 1, none⟩) (by omega) (.int .u8 129)
  have M16 := (F1.below (below_then T5 B16)).cell
  have MP16 := (P1.below (below_then T5 B16)).cell
  obtain ⟨w16, hw16⟩ : ∃ w16, w14.setCell ⟨g14, 1, none⟩ (.int .u8 129) = w16 := ⟨_, rfl⟩
  rw [hw16] at S16 B16 M16 MP16 ⊢
  have bs16 := B16.size
  refine (four_any ack ak0 ak1 _).mono ?_
  rintro e w17 ⟨A17, c17, rfl, ho17, hB17⟩
  have S17 := S16.below hB17
  have B17 := below_then B16 hB17
  go_wp2_with (first
    | (at_builtin; refine wpList_append_bs (w0 := w5) _ rfl _ _ _ rfl w5.heap.size 5 Try.underlying24 info_u8 (some ⟨g14, 0, none⟩) 12 c14 _ rfl S17 A17 4 c17 (four ack) rfl ho17.bs B17 (by omega) (by first | exact Nat.le_refl _ | exact Below.size B17 | omega | (simp <;> omega)) ?_; intro A18 n18 c18 w18 ho18 hB18 _ hz18; have u18 : n18 = 16 := (by rw [← ho18.len]; rfl); subst u18; (obtain ⟨g18, rfl, ge18, gt18⟩ := ho18.ptr (by omega)); have a181 := ho18.at_ (i := 1) (by omega); have gk18 : k + 1 + 1 < g18 := (by omega); have F18 := F1.below (below_then T5 hB18); have mc18 := F18.cell; have pc18 := (P1.below (below_then T5 hB18)).cell; have zc18 := (Z1.below (below_then T5 hB18)).cell))
  have Tc := below_then T5 hB18
  have Pc := P1.below Tc
  have Fc := F1.below Tc
  have Zc := Z1.below Tc
  have pcc := Pc.cell
  have fcc := Fc.cell
  have zcc := Zc.cell
  have yc := y1.below Tc
  have xc := x1.below Tc
  have gtc := ho18.at_ (i := 0) (by omega)
  have hw1' := hok
  clear hok
  refine regionX 8 [4] g18 (fun c W => match c with | 0 => Own W w5.heap.size 5 (some ⟨g18, 0, none⟩) 16 c18 (((grB true true ++ two z ++ two call) ++ four seq) ++ four ack) | _ + 1 => True) (by kernel_rfl) (by kernel_rfl) (by kernel_rfl) ho18 (fun c W W' hj hb => by cases c with | zero => exact Own.below hj hb | succ n => trivial) ?_; (iterate 8 (first | (apply ObsX.skip (by rfl) (by rfl)) | (apply ObsX.v (by rfl) (by rfl); (intro wo hE; (repeat (first | (intro v hv; ((first | (obtain ⟨Ap, np, cp, rfl, op⟩ := hv; have obp := op.bs) | (obtain ⟨D1, g1, h1', D2, g2, h2', rfl, o13, o14⟩ := hv)))) | (intro _ _ k; try have hcv := cv k))); (have pco := (Pc.ext hE (by omega)).cell; have mco := (Fc.ext hE (by omega)).cell; have xo := x1.below (below_ext Tc hE (by omega) Tc.size); have yo := y1.below (below_ext Tc hE (by omega) Tc.size); have hsz := hE.size); refine Goes.mk ?_; first | (exact goes_appX _ _ rfl rfl hj (fun k e => by simp [Value.ownBlock] at e; exact e.symm) rfl yo (by omega) (by omega) (fun _ => trivial)) | (go_simp; first | exact goes_v | exact goes_pk (by assumption) (by assumption) | (refine goes_enter ?_; first | (go_at_call 41; ((with_reducible refine (hw1' wo Ap np cp xo obp).mono ?_); rintro e w12 ⟨⟨D1, g1, h1', D2, g2, h2', rfl, O13, O14, hB12⟩⟩); exact ret_tup (O13.mono hsz) (O14.mono hsz) hB12))))) | (apply ObsX.p (q := isTup w18.heap.size Q E) (by rfl) (by rfl) st_isTup (sx_isTup (by omega)); (intro wo hE; (repeat (first | (intro v hv; ((first | (obtain ⟨Ap, np, cp, rfl, op⟩ := hv; have obp := op.bs) | (obtain ⟨D1, g1, h1', D2, g2, h2', rfl, o13, o14⟩ := hv)))) | (intro _ _ k; try have hcv := cv k))); (have pco := (Pc.ext hE (by omega)).cell; have mco := (Fc.ext hE (by omega)).cell; have xo := x1.below (below_ext Tc hE (by omega) Tc.size); have yo := y1.below (below_ext Tc hE (by omega) Tc.size); have hsz := hE.size); refine Goes.mk ?_; first | (exact goes_appX _ _ rfl rfl hj (fun k e => by simp [Value.ownBlock] at e; exact e.symm) rfl yo (by omega) (by omega) (fun _ => trivial)) | (go_simp; first | exact goes_v | exact goes_pk (by assumption) (by assumption) | (refine goes_enter ?_; first | (go_at_call 41; ((with_reducible refine (hw1' wo Ap np cp xo obp).mono ?_); rintro e w12 ⟨⟨D1, g1, h1', D2, g2, h2', rfl, O13, O14, hB12⟩⟩); exact ret_tup (O13.mono hsz) (O14.mono hsz) hB12))))) | (apply ObsX.p (q := isPk w18.heap.size Q) (by rfl) (by rfl) st_isPk (sx_isPk (by omega)); (intro wo hE; (repeat (first | (intro v hv; ((first | (obtain ⟨Ap, np, cp, rfl, op⟩ := hv; have obp := op.bs) | (obtain ⟨D1, g1, h1', D2, g2, h2', rfl, o13, o14⟩ := hv)))) | (intro _ _ k; try have hcv := cv k))); (have pco := (Pc.ext hE (by omega)).cell; have mco := (Fc.ext hE (by omega)).cell; have xo := x1.below (below_ext Tc hE (by omega) Tc.size); have yo := y1.below (below_ext Tc hE (by omega) Tc.size); have hsz := hE.size); refine Goes.mk ?_; first | (exact goes_appX _ _ rfl rfl hj (fun k e => by simp [Value.ownBlock] at e; exact e.symm) rfl yo (by omega) (by omega) (fun _ => trivial)) | (go_simp; first | exact goes_v | exact goes_pk (by assumption) (by assumption) | (refine goes_enter ?_; first | (go_at_call 41; ((with_reducible refine (hw1' wo Ap np cp xo obp).mono ?_); rintro e w12 ⟨⟨D1, g1, h1', D2, g2, h2', rfl, O13, O14, hB12⟩⟩); exact ret_tup (O13.mono hsz) (O14.mono hsz) hB12))))) | (apply ObsX.ev (by rfl) (by rfl); (intro wo hE hj; (repeat (first | (intro v hv; ((first | (obtain ⟨Ap, np, cp, rfl, op⟩ := hv; have obp := op.bs) | (obtain ⟨D1, g1, h1', D2, g2, h2', rfl, o13, o14⟩ := hv)))) | (intro _ _ k; try have hcv := cv k))); (have pco := (Pc.ext hE (by omega)).cell; have mco := (Fc.ext hE (by omega)).cell; have xo := x1.below (below_ext Tc hE (by omega) Tc.size); have yo := y1.below (below_ext Tc hE (by omega) Tc.size); have hsz := hE.size); refine GoesX.mk ?_; first | (exact goes_appX _ _ rfl rfl hj (fun k e => by simp [Value.ownBlock] at e; exact e.symm) rfl yo (by omega) (by omega) (fun _ => trivial)) | (go_simp; first | exact goes_v | exact goes_pk (by assumption) (by assumption) | (refine goes_enter ?_; first | (go_at_call 41; ((with_reducible refine (hw1' wo Ap np cp xo obp).mono ?_); rintro e w12 ⟨⟨D1, g1, h1', D2, g2, h2', rfl, O13, O14, hB12⟩⟩); exact ret_tup (O13.mono hsz) (O14.mono hsz) hB12))))) | (apply ObsX.ep (q := isTup w18.heap.size Q E) (by rfl) (by rfl) (by rfl) st_isTup; (intro wo hE hj; (repeat (first | (intro v hv; ((first | (obtain ⟨Ap, np, cp, rfl, op⟩ := hv; have obp := op.bs) | (obtain ⟨D1, g1, h1', D2, g2, h2', rfl, o13, o14⟩ := hv)))) | (intro _ _ k; try have hcv := cv k))); (have pco := (Pc.ext hE (by omega)).cell; have mco := (Fc.ext hE (by omega)).cell; have xo := x1.below (below_ext Tc hE (by omega) Tc.size); have yo := y1.below (below_ext Tc hE (by omega) Tc.size); have hsz := hE.size); refine GoesX.mk ?_; first | (exact goes_appX _ _ rfl rfl hj (fun k e => by simp [Value.ownBlock] at e; exact e.symm) rfl yo (by omega) (by omega) (fun _ => trivial)) | (go_simp; first | exact goes_v | exact goes_pk (by assumption) (by assumption) | (refine goes_enter ?_; first | (go_at_call 41; ((with_reducible refine (hw1' wo Ap np cp xo obp).mono ?_); rintro e w12 ⟨⟨D1, g1, h1', D2, g2, h2', rfl, O13, O14, hB12⟩⟩); exact ret_tup (O13.mono hsz) (O14.mono hsz) hB12))))) | (apply ObsX.ep (q := isPk w18.heap.size Q) (by rfl) (by rfl) (by rfl) st_isPk; (intro wo hE hj; (repeat (first | (intro v hv; ((first | (obtain ⟨Ap, np, cp, rfl, op⟩ := hv; have obp := op.bs) | (obtain ⟨D1, g1, h1', D2, g2, h2', rfl, o13, o14⟩ := hv)))) | (intro _ _ k; try have hcv := cv k))); (have pco := (Pc.ext hE (by omega)).cell; have mco := (Fc.ext hE (by omega)).cell; have xo := x1.below (below_ext Tc hE (by omega) Tc.size); have yo := y1.below (below_ext Tc hE (by omega) Tc.size); have hsz := hE.size); refine GoesX.mk ?_; first | (exact goes_appX _ _ rfl rfl hj (fun k e => by simp [Value.ownBlock] at e; exact e.symm) rfl yo (by omega) (by omega) (fun _ => trivial)) | (go_simp; first | exact goes_v | exact goes_pk (by assumption) (by assumption) | (refine goes_enter ?_; first | (go_at_call 41; ((with_reducible refine (hw1' wo Ap np cp xo obp).mono ?_); rintro e w12 ⟨⟨D1, g1, h1', D2, g2, h2', rfl, O13, O14, hB12⟩⟩); exact ret_tup (O13.mono hsz) (O14.mono hsz) hB12))))) | (apply ObsX.ep (q := isW w5.heap.size _) (by rfl) (by rfl) (by rfl) st_isW; (intro wo hE hj; (repeat (first | (intro v hv; ((first | (obtain ⟨Ap, np, cp, rfl, op⟩ := hv; have obp := op.bs) | (obtain ⟨D1, g1, h1', D2, g2, h2', rfl, o13, o14⟩ := hv)))) | (intro _ _ k; try have hcv := cv k))); (have pco := (Pc.ext hE (by omega)).cell; have mco := (Fc.ext hE (by omega)).cell; have xo := x1.below (below_ext Tc hE (by omega) Tc.size); have yo := y1.below (below_ext Tc hE (by omega) Tc.size); have hsz := hE.size); refine GoesX.mk ?_; first | (exact goes_appX _ _ rfl rfl hj (fun k e => by simp [Value.ownBlock] at e; exact e.symm) rfl yo (by omega) (by omega) (fun _ => trivial)) | (go_simp; first | exact goes_v | exact goes_pk (by assumption) (by assumption) | (refine goes_enter ?_; first | (go_at_call 41; ((with_reducible refine (hw1' wo Ap np cp xo obp).mono ?_); rintro e w12 ⟨⟨D1, g1, h1', D2, g2, h2', rfl, O13, O14, hB12⟩⟩); exact ret_tup (O13.mono hsz) (O14.mono hsz) hB12))))))); refine ObsX.nil ?_; intro wz hEz hJz; simp only [finOn, List.drop_succ_cons, List.drop_zero, List.drop_nil]
  rintro v12 ⟨D1, g1, h1', D2, g2, h2', rfl, O13, O14⟩ v13 hv13 v14 hv14
  clear hv13 hv14
  go_simp
  have Zz := Zc.ext hEz (by omega)
  have zcz := Zz.cell
  have Tz := below_ext Tc hEz (by omega) Tc.size
  have r1s := R1.size
  go_wp2_with fail
  obtain ⟨wf, hwf, Sf⟩ := store9 Zz (.int .u8 Q.tos) (.int .u16 Q.id) (.bool Q.keep) (.int .u8 Q.ttl) (.int .u8 Q.proto) (.int .u32 Q.src) (.int .u32 Q.dst) (.slice D1 g1 h1') (.slice D2 g2 h2')
  rw [hwf]
  have pf := Sf.blk.cell
  have Of := Sf.own O13 (fun a e => by have := O13.ge a e; omega)
  have Df := Sf.own O14 (fun a e => by have := O14.ge a e; omega)
  have tcs := Tc.size
  refine bodyPost_ret (v := .tuple #[(.agg #[.int .u8 (Q).tos, .int .u16 (Q).id, .bool (Q).keep, .int .u8 (Q).ttl, .int .u8 (Q).proto, .int .u32 (Q).src, .int .u32 (Q).dst, .slice D1 g1 h1', .slice D2 g2 h2']), .int .i64 E]) (by simp [results, Try.results17, go_sem, pf]) rfl ⟨⟨D1, g1, h1', D2, g2, h2', rfl, Of.mono (by omega), Df.mono (by omega), Sf.bel (below_then R1 Tz) (by omega)⟩⟩
theorem rbg_long11 (p : Pkt) (A1 : Option Addr) (n1 c1 : Nat) (A2 : Option Addr) (n2 c2 : Nat) (call : Int) (seq ack : Int) (dat : List UInt8) (B1 : Option Addr) (m1 d1 : Nat) (w : World) (k1 : Bs w A1 n1 c1 p.opt) (j1 : Bs w B1 m1 d1 dat)
    (hca : 0 ≤ call ∧ call ≤ 65535) (hse : 0 ≤ seq ∧ seq ≤ 4294967295) (hak : 0 ≤ ack ∧ ack ≤ 4294967295) (h1 : (n1 : Int) ≤ 40) (h2 : n1 % 4 = 0) (Q : Pkt) (E : Int) (h3 : 65535 < 20 + (n1 : Int) + 16 + m1) (hQ : Q = zP) (hE8 : E = 8) :
    Calls Try.prog 17 #[(.agg #[.int .u8 (p).tos, .int .u16 (p).id, .bool (p).keep, .int .u8 (p).ttl, .int .u8 (p).proto, .int .u32 (p).src, .int .u32 (p).dst, .slice A1 n1 c1, .slice A2 n2 c2]), .agg #[.int .u16 call, .bool true, .bool true, .int .u32 seq, .int .u32 ack, .slice B1 m1 d1]] w (WiPost w Q E) := by
  have hw0 : ∀ W, Bs W A1 n1 c1 p.opt → Calls Try.prog 41 #[(.agg #[.int .u8 (p).tos, .int .u16 (p).id, .bool (p).keep, .int .u8 (p).ttl, .int .u8 (p).proto, .int .u32 (p).src, .int .u32 (p).dst, .slice A1 n1 c1, .slice A2 n2 c2]), .int .u8 47, .slice none 0 0] W (fun e w' => ∃ C1 e1 f1 C2 e2 f2, e = .returned (.tuple #[.agg #[.int .u8 p.tos, .int .u16 p.id, .bool p.keep, .int .u8 p.ttl, .int .u8 47, .int .u32 p.src, .int .u32 p.dst, .slice C1 e1 f1, .slice C2 e2 f2], .int .i64 0]) ∧ Own w' W.heap.size 5 C1 e1 f1 p.opt ∧ Own w' W.heap.size 5 C2 e2 f2 [] ∧ Below W.heap.size W w') := fun W kk => by
    have hh := rwith_any p A1 n1 c1 A2 n2 c2 47 none 0 0 [] W kk (Bs.none_ W)
    unfold withP at hh
    rw [show ([] : List UInt8).length = 0 from rfl, wiE_0 k1.len h1 h2 (by omega), if_pos rfl] at hh
    exact hh.mono fun e w' hq => hq.out
  have b1 := j1.max
  obtain ⟨ca0, ca1⟩ := hca
  obtain ⟨se0, se1⟩ := hse
  obtain ⟨ak0, ak1⟩ := hak
  obtain ⟨z, hz⟩ : ∃ z : Int, (m1 : Int) % 65536 = z := ⟨_, rfl⟩
  have z0 : 0 ≤ z := by omega
  have z1 : z ≤ 65535 := by omega
  have hzw : IntKind.u16.wrap (m1 : Int) = z := by rw [← hz]; simp [IntKind.wrap, IntKind.signed, IntKind.bits]
  subst hQ hE8
  have L4 := fun W => lit4 (e := 5) (x := 32) (y := 1) (z := 136) (u := 11) (by omega) (by omega) (by omega) (by omega) (by omega) (by omega) (by omega) (by omega) W
  have H0 : Hid ([ub 32, ub 1, ub 136, ub 11] ++ two z ++ two call = grB false false ++ two z ++ two call) := rfl
  obtain ⟨k, hk⟩ : ∃ k : Nat, w.heap.size = k := ⟨_, rfl⟩
  obtain ⟨w1, hw1⟩ : ∃ w1, ((w.alloc (.cells #[.int .u8 (p).tos, .int .u16 (p).id, .bool (p).keep, .int .u8 (p).ttl, .int .u8 (p).proto, .int .u32 (p).src, .int .u32 (p).dst, .slice A1 n1 c1, .slice A2 n2 c2] 26)).alloc (.cells #[.int .u16 call, .bool true, .bool true, .int .u32 seq, .int .u32 ack, .slice B1 m1 d1] 30)).alloc (.cells #[.int .u8 0, .int .u16 0, .bool false, .int .u8 0, .int .u8 0, .int .u32 0, .int .u32 0, .slice none 0 0, .slice none 0 0] 26) = w1 := ⟨_, rfl⟩
  have P1 : Blk w1 k #[.int .u8 (p).tos, .int .u16 (p).id, .bool (p).keep, .int .u8 (p).ttl, .int .u8 (p).proto, .int .u32 (p).src, .int .u32 (p).dst, .slice A1 n1 c1, .slice A2 n2 c2] 26 := by rw [← hw1]; exact ((blk_new w _ _ k hk).alloc _).alloc _
  have F1 : Blk w1 (k + 1) #[.int .u16 call, .bool true, .bool true, .int .u32 seq, .int .u32 ack, .slice B1 m1 d1] 30 := by rw [← hw1]; exact (blk_new _ _ _ (k + 1) (by simp [hk])).alloc _
  have Z1 : Blk w1 (k + 1 + 1) #[.int .u8 0, .int .u16 0, .bool false, .int .u8 0, .int .u8 0, .int .u32 0, .int .u32 0, .slice none 0 0, .slice none 0 0] 26 := by rw [← hw1]; exact blk_new _ _ _ (k + 1 + 1) (by simp [hk])
  have R1 : Below w.heap.size w w1 := by rw [← hw1]; (repeat (first | with_reducible exact Below.refl _ _ | with_reducible refine below_drew ?_ | with_reducible refine below_drewN ?_ _ | with_reducible refine below_alloc ?_ (Nat.le_refl _) _ | with_reducible refine Below.setCell ?_ (by first | exact Nat.le_refl _ | (simp only []; omega)) _ | with_reducible assumption))
  have x1 := k1.below R1
  have y1 := j1.below R1
  have pc := P1.cell
  have mc := F1.cell
  have zc := Z1.cell
  have zl1 := Z1.lt
  go_enter Try.func17, Try.ntmps17
  go_wp2_with (go_at_call 41; ((with_reducible refine (hw0 w1 x1).mono ?_); rintro e w4 ⟨C1, e1, f1, C2, e2, f2, rfl, O1, O2, hB4⟩); (obtain ⟨w5, hw5⟩ : ∃ w5, w4.alloc (.cells #[.int .u8 p.tos, .int .u16 p.id, .bool p.keep, .int .u8 p.ttl, .int .u8 47, .int .u32 p.src, .int .u32 p.dst, .slice C1 e1 f1, .slice C2 e2 f2] 26) = w5 := ⟨_, rfl⟩); have V5 : Below w4.heap.size w4 w5 := (by rw [← hw5]; (repeat (first | with_reducible exact Below.refl _ _ | with_reducible refine below_drew ?_ | with_reducible refine below_drewN ?_ _ | with_reducible refine below_alloc ?_ (Nat.le_refl _) _ | with_reducible refine Below.setCell ?_ (by first | exact Nat.le_refl _ | (simp only []; omega)) _ | with_reducible assumption))); have T5 := below_then hB4 V5; have P5 := P1.below T5; have F5 := F1.below T5; have Z5 := Z1.below T5; have zc5 := Z5.cell)
  obtain ⟨w6, hw6⟩ : ∃ w6, w5.alloc (.cells #[.int .u8 32, .int .u8 1, .int .u8 136, .int .u8 11] 5) = w6 := ⟨_, rfl⟩
  have OL := L4 w5
  have V6 : Below w5.heap.size w5 w6 := by rw [← hw6]; (repeat (first | with_reducible exact Below.refl _ _ | with_reducible refine below_drew ?_ | with_reducible refine below_drewN ?_ _ | with_reducible refine below_alloc ?_ (Nat.le_refl _) _ | with_reducible refine Below.setCell ?_ (by first | exact Nat.le_refl _ | (simp only []; omega)) _ | with_reducible assumption))
  rw [hw6] at OL ⊢
  have T6 := below_then T5 V6
  have F6 := F1.below T6
  have v6s := V6.size
  have v5s := T5.size
  have zl5 := Z5.lt
  clear hw6 hw5 zc5 pc mc zc hw1
  refine region_txt 10 (by kernel_rfl) (by kernel_rfl) ?_; (iterate 10 (first | (apply ObsK.skip (by rfl)) | (apply ObsK.v (by rfl); (intro wo hT; (repeat (first | (intro v hv; (fail)) | (intro _ _ k; try have hcv := cv k))); (have mc := (F6.below hT).cell; have hsz : w5.heap.size ≤ wo.heap.size := Nat.le_trans v6s hT.size); refine Goes.mk ?_; first | (exact goes_app _ _ rfl rfl (OL.below hT) rfl (by assumption) (by omega) hsz) | (go_simp; first | exact goes_v | exact goes_b (by assumption) | fail | (refine goes_enter ?_; first | (go_at_call 46; ((with_reducible refine (two_any z z0 z1 wo).mono ?_); rintro e w9 ⟨A9, c9, rfl, ho9, hB9⟩); exact ret_b ho9.bs hB9) | (go_at_call 46; ((with_reducible refine (two_any call ca0 ca1 wo).mono ?_); rintro e w9 ⟨A9, c9, rfl, ho9, hB9⟩); exact ret_b ho9.bs hB9))))) | (apply ObsK.b (by rfl); (intro wo hT; (repeat (first | (intro v hv; (fail)) | (intro _ _ k; try have hcv := cv k))); (have mc := (F6.below hT).cell; have hsz : w5.heap.size ≤ wo.heap.size := Nat.le_trans v6s hT.size); refine Goes.mk ?_; first | (exact goes_app _ _ rfl rfl (OL.below hT) rfl (by assumption) (by omega) hsz) | (go_simp; first | exact goes_v | exact goes_b (by assumption) | fail | (refine goes_enter ?_; first | (go_at_call 46; ((with_reducible refine (two_any z z0 z1 wo).mono ?_); rintro e w9 ⟨A9, c9, rfl, ho9, hB9⟩); exact ret_b ho9.bs hB9) | (go_at_call 46; ((with_reducible refine (two_any call ca0 ca1 wo).mono ?_); rintro e w9 ⟨A9, c9, rfl, ho9, hB9⟩); exact ret_b ho9.bs hB9))))) | (apply ObsK.p (q := isW w5.heap.size _) (by rfl) st_isW; (intro wo hT; (repeat (first | (intro v hv; (fail)) | (intro _ _ k; try have hcv := cv k))); (have mc := (F6.below hT).cell; have hsz : w5.heap.size ≤ wo.heap.size := Nat.le_trans v6s hT.size); refine Goes.mk ?_; first | (exact goes_app _ _ rfl rfl (OL.below hT) rfl (by assumption) (by omega) hsz) | (go_simp; first | exact goes_v | exact goes_b (by assumption) | fail | (refine goes_enter ?_; first | (go_at_call 46; ((with_reducible refine (two_any z z0 z1 wo).mono ?_); rintro e w9 ⟨A9, c9, rfl, ho9, hB9⟩); exact ret_b ho9.bs hB9) | (go_at_call 46; ((with_reducible refine (two_any call ca0 ca1 wo).mono ?_); rintro e w9 ⟨A9, c9, rfl, ho9, hB9⟩); exact ret_b ho9.bs hB9))))))); refine ObsK.nil ?_; intro wz hBz; simp only [finOn, List.drop_succ_cons, List.drop_zero, List.drop_nil]
  rintro A9 c9 k9 v7 ⟨A7, n7, c7, rfl, O7⟩ A8 c8 k8
  go_simp
  have u7 : n7 = 6 := by rw [← O7.len]; rfl
  subst u7
  have V7 := below_then V6 hBz
  have F7 := F1.below (below_then T5 V7)
  have mc7 := F7.cell
  clear k8
  go_wp2_with (first
    | (at_builtin; refine wpList_append_bs (w0 := w5) _ rfl _ _ _ rfl w5.heap.size 5 Try.underlying24 info_u8 A7 6 c7 _ rfl O7 A9 2 c9 (two call) rfl k9 V7 (by omega) (by first | exact Nat.le_refl _ | exact Below.size V7 | omega | (simp <;> omega)) ?_; intro A10 n10 c10 w10 ho10 hB10 _ hz10; have u10 : n10 = 8 := (by rw [← ho10.len]; rfl); subst u10; rw [H0.out] at ho10; (obtain ⟨g10, rfl, ge10, gt10⟩ := ho10.ptr (by omega)); have a10 := ho10.at_ (i := 0) (by omega); have a11 := ho10.at_ (i := 1) (by omega); have gk10 : k + 1 + 1 < g10 := (by omega); have F10 := F1.below (below_then T5 hB10); have mc10 := F10.cell; have pc10 := (P1.below (below_then T5 hB10)).cell; have zc10 := (Z1.below (below_then T5 hB10)).cell))
  have S12 : Own (w10.setCell ⟨g10, 0, none⟩ (.int .u8 48)) w5.heap.size 5 (some ⟨g10, 0, none⟩) 8 c10 (grB true false ++ two z ++ two call) := by
    have := ho10.set_ (i := 0) (by omega) 48 (y := 48) (by omega)
    exact this
  have B12 := hB10.setCell (p := ⟨g10, 0, none⟩) (by omega) (.int .u8 48)
  have M12 := (F1.below (below_then T5 B12)).cell
  have MP12 := (P1.below (below_then T5 B12)).cell
  obtain ⟨w12, hw12⟩ : ∃ w12, w10.setCell ⟨g10, 0, none⟩ (.int .u8 48) = w12 := ⟨_, rfl⟩
  rw [hw12] at S12 B12 M12 MP12 ⊢
  have bs12 := B12.size
  refine (four_any seq se0 se1 _).mono ?_
  rintro e w13 ⟨A13, c13, rfl, ho13, hB13⟩
  have S13 := S12.below hB13
  have B13 := below_then B12 hB13
  go_wp2_with (first
    | (at_builtin; refine wpList_append_bs (w0 := w5) _ rfl _ _ _ rfl w5.heap.size 5 Try.underlying24 info_u8 (some ⟨g10, 0, none⟩) 8 c10 _ rfl S13 A13 4 c13 (four seq) rfl ho13.bs B13 (by omega) (by first | exact Nat.le_refl _ | exact Below.size B13 | omega | (simp <;> omega)) ?_; intro A14 n14 c14 w14 ho14 hB14 _ hz14; have u14 : n14 = 12 := (by rw [← ho14.len]; rfl); subst u14; (obtain ⟨g14, rfl, ge14, gt14⟩ := ho14.ptr (by omega)); have a141 := ho14.at_ (i := 1) (by omega); have gk14 : k + 1 + 1 < g14 := (by omega); have F14 := F1.below (below_then T5 hB14); have mc14 := F14.cell; have pc14 := (P1.below (below_then T5 hB14)).cell; have zc14 := (Z1.below (below_then T5 hB14)).cell))
  have S16 : Own (w14.setCell ⟨g14, 1, none⟩ (.int .u8 129)) w5.heap.size 5 (some ⟨g14, 0, none⟩) 12 c14 ((grB true true ++ two z ++ two call) ++ four seq) := by
    have := ho14.set_ (i := 1) (by omega) 129 (y := 129) (by omega)
    exact this
  have B16 := hB14.setCell (p := ⟨g14, 1, none⟩) (by omega) (.int .u8 129)
  have M16 := (F1.below (below_then T5 B16)).cell
  have MP16 := (P1.below (below_then T5 B16)).cell
  obtain ⟨w16, hw16⟩ : ∃ w16, w14.setCell ⟨g14, 1, none⟩ (.int .u8 129) = w16 := ⟨_, rfl⟩
  rw [hw16] at S16 B16 M16 MP16 ⊢
  have bs16 := B16.size
  refine (four_any ack ak0 ak1 _).mono ?_
  rintro e w17 ⟨A17, c17, rfl, ho17, hB17⟩
  have S17 := S16.below hB17
  have B17 := below_then B16 hB17
  go_wp2_with (first
    | (at_builtin; refine wpList_append_bs (w0 := w5) _ rfl _ _ _ rfl w5.heap.size 5 Try.underlying24 info_u8 (some ⟨g14, 0, none⟩) 12 c14 _ rfl S17 A17 4 c17 (four ack) rfl ho17.bs B17 (by omega) (by first | exact Nat.le_refl _ | exact Below.size B17 | omega | (simp <;> omega)) ?_; intro A18 n18 c18 w18 ho18 hB18 _ hz18; have u18 : n18 = 16 := (by rw [← ho18.len]; rfl); subst u18; (obtain ⟨g18, rfl, ge18, gt18⟩ := ho18.ptr (by omega)); have a181 := ho18.at_ (i := 1) (by omega); have gk18 : k + 1 + 1 < g18 := (by omega); have F18 := F1.below (below_then T5 hB18); have mc18 := F18.cell; have pc18 := (P1.below (below_then T5 hB18)).cell; have zc18 := (Z1.below (below_then T5 hB18)).cell))
  have Tc := below_then T5 hB18
  have Pc := P1.below Tc
  have Fc := F1.below Tc
  have Zc := Z1.below Tc
  have pcc := Pc.cell
  have fcc := Fc.cell
  have zcc := Zc.cell
  have yc := y1.below Tc
  have xc := x1.below Tc
  have gtc := ho18.at_ (i := 0) (by omega)
  obtain ⟨wf, hwf, Sf⟩ := store9 Zc (.int .u8 0) (.int .u16 0) (.bool false) (.int .u8 0) (.int .u8 0) (.int .u32 0) (.int .u32 0) (.slice none 0 0) (.slice none 0 0)
  rw [hwf]
  have pf := Sf.blk.cell
  exact bodyPost_ret (by simp [results, Try.results17, go_sem, pf]) rfl (wiPost_no (Sf.bel (below_then R1 Tc) (by omega)))
end Go.Proofs.Ytogbncpchmnbdaa

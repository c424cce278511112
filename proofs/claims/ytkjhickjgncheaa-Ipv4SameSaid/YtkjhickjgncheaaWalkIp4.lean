import Derived.Test.YtkjhickjgncheaaIpV
import Derived.Test.YtkjhickjgncheaaTight
namespace Go.Proofs.Ytkjhickjgncheaa
open Go.RowKit
set_option linter.unusedVariables false
set_option linter.unusedSimpArgs false
set_option linter.unusedSimpArgs false
set_option maxHeartbeats 4000000
set_option maxRecDepth 100000

theorem ipv4Same_walk (w : World) (p : Pkt) (hp : p.Ok) (A1 : Option Addr) (n1 c1 : Nat) (A2 : Option Addr) (n2 c2 : Nat) (k1 : Bs w A1 n1 c1 p.opt) (k2 : Bs w A2 n2 c2 p.dat)
    (q : Pkt) (hq : q.Ok) (B1 : Option Addr) (m1 d1 : Nat) (B2 : Option Addr) (m2 d2 : Nat) (j1 : Bs w B1 m1 d1 q.opt) (j2 : Bs w B2 m2 d2 q.dat) :
    Calls Try.prog 4 #[(.agg #[.int .u8 (p).tos, .int .u16 (p).id, .bool (p).keep, .int .u8 (p).ttl, .int .u8 (p).proto, .int .u32 (p).src, .int .u32 (p).dst, .slice A1 n1 c1, .slice A2 n2 c2]), (.agg #[.int .u8 (q).tos, .int .u16 (q).id, .bool (q).keep, .int .u8 (q).ttl, .int .u8 (q).proto, .int .u32 (q).src, .int .u32 (q).dst, .slice B1 m1 d1, .slice B2 m2 d2])] w fun e w' => e = .returned (.bool true) ∧ Below w.heap.size w w' := by
  obtain ⟨k, hk⟩ : ∃ k : Nat, w.heap.size = k := ⟨_, rfl⟩
  obtain ⟨⟨o1, o1'⟩, ⟨o2, o2'⟩, ⟨o3, o3'⟩, ⟨o4, o4'⟩, ⟨o5, o5'⟩, ⟨o6, o6'⟩⟩ := id hp
  obtain ⟨y, hy⟩ : ∃ y, (p.ttl + 1) % 256 = y := ⟨_, rfl⟩
  have y0 : 0 ≤ y := by omega
  have y1 : y ≤ 255 := by omega
  have yne : (p.ttl == y) = false := by simp; omega
  obtain ⟨w1, hw1⟩ : ∃ w1, ((w.alloc (.cells #[.int .u8 (p).tos, .int .u16 (p).id, .bool (p).keep, .int .u8 (p).ttl, .int .u8 (p).proto, .int .u32 (p).src, .int .u32 (p).dst, .slice A1 n1 c1, .slice A2 n2 c2] 26)).alloc (.cells #[.int .u8 (q).tos, .int .u16 (q).id, .bool (q).keep, .int .u8 (q).ttl, .int .u8 (q).proto, .int .u32 (q).src, .int .u32 (q).dst, .slice B1 m1 d1, .slice B2 m2 d2] 26)) = w1 := ⟨_, rfl⟩
  have P0 : Blk w1 k #[.int .u8 (p).tos, .int .u16 (p).id, .bool (p).keep, .int .u8 (p).ttl, .int .u8 (p).proto, .int .u32 (p).src, .int .u32 (p).dst, .slice A1 n1 c1, .slice A2 n2 c2] 26 := by rw [← hw1]; exact (blk_new w _ _ k hk).alloc _
  have Q0 : Blk w1 (k + 1) #[.int .u8 (q).tos, .int .u16 (q).id, .bool (q).keep, .int .u8 (q).ttl, .int .u8 (q).proto, .int .u32 (q).src, .int .u32 (q).dst, .slice B1 m1 d1, .slice B2 m2 d2] 26 := by rw [← hw1]; exact blk_new _ _ _ (k + 1) (by simp [hk])
  have R1 : Below w.heap.size w w1 := by rw [← hw1]; (repeat (first | with_reducible exact Below.refl _ _ | with_reducible refine below_drew ?_ | with_reducible refine below_drewN ?_ _ | with_reducible refine below_alloc ?_ (Nat.le_refl _) _ | with_reducible refine Below.setCell ?_ (by first | exact Nat.le_refl _ | (simp only []; omega)) _ | with_reducible assumption))
  have x1 := k1.below R1
  have x2 := k2.below R1
  have z1 := j1.below R1
  have z2 := j2.below R1
  have pc := P0.cell
  have kl : k < w1.heap.size := P0.lt
  go_enter Try.func4, Try.ntmps4
  go_wp2_with fail
  have V0 : Below w1.heap.size w1 ((w1.alloc (.cells #[.int .u8 p.tos, .int .u16 p.id, .bool p.keep, .int .u8 y, .int .u8 p.proto, .int .u32 p.src, .int .u32 p.dst, .slice A1 n1 c1, .slice A2 n2 c2] 26)).alloc (.cells #[.int .u8 (p).tos, .int .u16 (p).id, .bool (p).keep, .int .u8 (p).ttl, .int .u8 (p).proto, .int .u32 (p).src, .int .u32 (p).dst, .slice A1 n1 c1, .slice A2 n2 c2] 26)) := by (repeat (first | with_reducible exact Below.refl _ _ | with_reducible refine below_drew ?_ | with_reducible refine below_drewN ?_ _ | with_reducible refine below_alloc ?_ (Nat.le_refl _) _ | with_reducible refine Below.setCell ?_ (by first | exact Nat.le_refl _ | (simp only []; omega)) _ | with_reducible assumption))
  have G0 := (blk_new w1 #[.int .u8 p.tos, .int .u16 p.id, .bool p.keep, .int .u8 y, .int .u8 p.proto, .int .u32 p.src, .int .u32 p.dst, .slice A1 n1 c1, .slice A2 n2 c2] 26 _ rfl).alloc (.cells #[.int .u8 (p).tos, .int .u16 (p).id, .bool (p).keep, .int .u8 (p).ttl, .int .u8 (p).proto, .int .u32 (p).src, .int .u32 (p).dst, .slice A1 n1 c1, .slice A2 n2 c2] 26)
  have H0 := blk_new (w1.alloc (.cells #[.int .u8 p.tos, .int .u16 p.id, .bool p.keep, .int .u8 y, .int .u8 p.proto, .int .u32 p.src, .int .u32 p.dst, .slice A1 n1 c1, .slice A2 n2 c2] 26)) #[.int .u8 (p).tos, .int .u16 (p).id, .bool (p).keep, .int .u8 (p).ttl, .int .u8 (p).proto, .int .u32 (p).src, .int .u32 (p).dst, .slice A1 n1 c1, .slice A2 n2 c2] 26 _ rfl
  obtain ⟨f, hf⟩ : ∃ f : Nat, w1.heap.size = f := ⟨_, rfl⟩
  have hf1 : (w1.alloc (.cells #[.int .u8 p.tos, .int .u16 p.id, .bool p.keep, .int .u8 y, .int .u8 p.proto, .int .u32 p.src, .int .u32 p.dst, .slice A1 n1 c1, .slice A2 n2 c2] 26)).heap.size = f + 1 := by simp [hf]
  rw [hf1] at H0
  rw [hf] at G0 ⊢
  generalize (w1.alloc (.cells #[.int .u8 p.tos, .int .u16 p.id, .bool p.keep, .int .u8 y, .int .u8 p.proto, .int .u32 p.src, .int .u32 p.dst, .slice A1 n1 c1, .slice A2 n2 c2] 26)).alloc (.cells #[.int .u8 (p).tos, .int .u16 (p).id, .bool (p).keep, .int .u8 (p).ttl, .int .u8 (p).proto, .int .u32 (p).src, .int .u32 (p).dst, .slice A1 n1 c1, .slice A2 n2 c2] 26) = w2 at V0 G0 H0 ⊢
  have P2 := P0.below V0
  have Q2 := Q0.below V0
  have u1 := x1.below V0
  have u2 := x2.below V0
  have v1 := z1.below V0
  have v2 := z2.below V0
  have m1' := u1.max
  have m2' := u2.max
  have hl0 : (cu []).toArray = #[] := rfl
  clear pc P0 Q0 x1 x2 z1 z2 hf1
  refine region_txt 9 (by kernel_rfl) (by kernel_rfl) ?_; (iterate 9 (first | (apply ObsK.skip (by rfl)) | (apply ObsK.v (by rfl); (intro wo hT; (repeat (first | (intro v hv; (obtain ⟨A8, rfl, ho8⟩ := hv)) | (intro _ _ k; try have hcv := cv k))); (have g0 := (P2.below hT).cell; have t1 := u1.below hT; have t2 := u2.below hT; have hsz := hT.size); refine Goes.mk ?_; first | (exact goes_app _ _ rfl rfl ho8 rfl (by assumption) (by omega) hsz) | (go_simp; first | exact goes_v | exact goes_b (by assumption) | exact goes_lit hl0 rfl (by omega) hsz | (refine goes_enter ?_; first | fail)))) | (apply ObsK.b (by rfl); (intro wo hT; (repeat (first | (intro v hv; (obtain ⟨A8, rfl, ho8⟩ := hv)) | (intro _ _ k; try have hcv := cv k))); (have g0 := (P2.below hT).cell; have t1 := u1.below hT; have t2 := u2.below hT; have hsz := hT.size); refine Goes.mk ?_; first | (exact goes_app _ _ rfl rfl ho8 rfl (by assumption) (by omega) hsz) | (go_simp; first | exact goes_v | exact goes_b (by assumption) | exact goes_lit hl0 rfl (by omega) hsz | (refine goes_enter ?_; first | fail)))) | (apply ObsK.p (q := isT w2.heap.size 0 []) (by rfl) st_isT; (intro wo hT; (repeat (first | (intro v hv; (obtain ⟨A8, rfl, ho8⟩ := hv)) | (intro _ _ k; try have hcv := cv k))); (have g0 := (P2.below hT).cell; have t1 := u1.below hT; have t2 := u2.below hT; have hsz := hT.size); refine Goes.mk ?_; first | (exact goes_app _ _ rfl rfl ho8 rfl (by assumption) (by omega) hsz) | (go_simp; first | exact goes_v | exact goes_b (by assumption) | exact goes_lit hl0 rfl (by omega) hsz | (refine goes_enter ?_; first | fail)))) | (apply ObsK.p (q := isW w2.heap.size _) (by rfl) st_isW; (intro wo hT; (repeat (first | (intro v hv; (obtain ⟨A8, rfl, ho8⟩ := hv)) | (intro _ _ k; try have hcv := cv k))); (have g0 := (P2.below hT).cell; have t1 := u1.below hT; have t2 := u2.below hT; have hsz := hT.size); refine Goes.mk ?_; first | (exact goes_app _ _ rfl rfl ho8 rfl (by assumption) (by omega) hsz) | (go_simp; first | exact goes_v | exact goes_b (by assumption) | exact goes_lit hl0 rfl (by omega) hsz | (refine goes_enter ?_; first | fail)))))); refine ObsK.nil ?_; intro wz hBz; simp only [finOn, List.drop_succ_cons, List.drop_zero, List.drop_nil]
  rintro v7 ⟨A7, n7, c7, rfl, O7⟩ v4 ⟨A4, rfl, O4⟩ v3 ⟨A3, n3, c3, rfl, O3⟩ v0 ⟨A0', rfl, O0⟩
  go_simp
  have fl := H0.lt
  have H3 := H0.below hBz
  have hc3 := H3.cell
  obtain ⟨wf, hwf, S⟩ : ∃ wf, (wz.setCell ⟨f + 1, 8, none⟩ (.slice A3 n3 c3)).setCell ⟨f + 1, 7, none⟩ (.slice A7 n7 c7) = wf ∧ Sto wz (f + 1) wf #[.int .u8 (p).tos, .int .u16 (p).id, .bool (p).keep, .int .u8 (p).ttl, .int .u8 (p).proto, .int .u32 (p).src, .int .u32 (p).dst, .slice A7 n7 c7, .slice A3 n3 c3] 26 := ⟨_, rfl, by
    have := ((Sto.nil H3).set 8 (.slice A3 n3 c3)).set 7 (.slice A7 n7 c7)
    simp only [List.setIfInBounds_toArray, List.set_cons_zero, List.set_cons_succ] at this
    exact this⟩
  have fk : k + 1 < f := by have := Q2.lt; rw [← hf, ← hw1]; simp [hk]
  go_wp2_with fail
  have T3 := S.bel (below_then R1 (below_then V0 hBz)) (by omega)
  have P3 := S.other (by omega) (P2.below hBz)
  have Q3 := S.other (by omega) (Q2.below hBz)
  have G3 := S.other (by omega) (G0.below hBz)
  have F3 := S.blk
  have r1 : Bs wf A7 n7 c7 p.opt := S.bs O7.bs (fun a e => by have := O7.ge a e; omega)
  have r2 : Bs wf A3 n3 c3 p.dat := S.bs O3.bs (fun a e => by have := O3.ge a e; omega)
  have s1 := k1.below T3
  have s2 := k2.below T3
  have s3 := j1.below T3
  have s4 := j2.below T3
  have e1 := sameP_self p
  have e2 : sameP p { p with ttl := y } = false := by unfold sameP; simp only [yne]; simp
  clear hc3 hwf S P2 Q2 G0 H0 H3 O7 O4 O3 O0 u1 u2 v1 v2 hBz V0 R1 yne
  refine region_txt 27 (by kernel_rfl) (by kernel_rfl) ?_; (iterate 27 (first | (apply ObsK.skip (by rfl)) | (apply ObsK.v (by rfl); (intro wo hT; (repeat (first | (intro _ _ k; try have hcv := cv k))); (have g0 := (P3.below hT).cell; have g1 := (Q3.below hT).cell; have g2 := (G3.below hT).cell; have g3 := (F3.below hT).cell; have a1 := r1.below hT; have a2 := r2.below hT; have b1 := s1.below hT; have b2 := s2.below hT; have b3 := s3.below hT; have b4 := s4.below hT); refine Goes.mk ?_; go_simp; first | exact goes_v | exact goes_b (by assumption) | (refine goes_enter ?_; first | (go_at_call 16; go_loud ((with_reducible refine (live02_any wo).mono ?_); rintro e w8 ⟨rfl, hB8⟩; exact ret_v hB8)) | (go_at_call 19; go_loud ((with_reducible refine (same_any p p A1 n1 c1 A2 n2 c2 A7 n7 c7 A3 n3 c3 wo b1 b2 a1 a2).mono ?_); rintro e w8 ⟨rfl, hB8⟩; rw [e1]; exact ret_v hB8)) | (go_at_call 19; go_loud ((with_reducible refine (same_any p p A7 n7 c7 A3 n3 c3 A1 n1 c1 A2 n2 c2 wo a1 a2 b1 b2).mono ?_); rintro e w8 ⟨rfl, hB8⟩; rw [e1]; exact ret_v hB8)) | (go_at_call 19; go_loud ((with_reducible refine (same_any p { p with ttl := y } A1 n1 c1 A2 n2 c2 A1 n1 c1 A2 n2 c2 wo b1 b2 b1 b2).mono ?_); rintro e w8 ⟨rfl, hB8⟩; rw [e2]; exact ret_v hB8)) | (go_at_call 19; go_loud ((with_reducible refine (same_any p q A1 n1 c1 A2 n2 c2 B1 m1 d1 B2 m2 d2 wo b1 b2 b3 b4).mono ?_); rintro e w8 ⟨rfl, hB8⟩; exact ret_v hB8)) | (go_at_call 19; go_loud ((with_reducible refine (same_any q p B1 m1 d1 B2 m2 d2 A1 n1 c1 A2 n2 c2 wo b3 b4 b1 b2).mono ?_); rintro e w8 ⟨rfl, hB8⟩; rw [sameP_comm q p]; exact ret_v hB8))))) | (apply ObsK.b (by rfl); (intro wo hT; (repeat (first | (intro _ _ k; try have hcv := cv k))); (have g0 := (P3.below hT).cell; have g1 := (Q3.below hT).cell; have g2 := (G3.below hT).cell; have g3 := (F3.below hT).cell; have a1 := r1.below hT; have a2 := r2.below hT; have b1 := s1.below hT; have b2 := s2.below hT; have b3 := s3.below hT; have b4 := s4.below hT); refine Goes.mk ?_; go_simp; first | exact goes_v | exact goes_b (by assumption) | (refine goes_enter ?_; first | (go_at_call 16; go_loud ((with_reducible refine (live02_any wo).mono ?_); rintro e w8 ⟨rfl, hB8⟩; exact ret_v hB8)) | (go_at_call 19; go_loud ((with_reducible refine (same_any p p A1 n1 c1 A2 n2 c2 A7 n7 c7 A3 n3 c3 wo b1 b2 a1 a2).mono ?_); rintro e w8 ⟨rfl, hB8⟩; rw [e1]; exact ret_v hB8)) | (go_at_call 19; go_loud ((with_reducible refine (same_any p p A7 n7 c7 A3 n3 c3 A1 n1 c1 A2 n2 c2 wo a1 a2 b1 b2).mono ?_); rintro e w8 ⟨rfl, hB8⟩; rw [e1]; exact ret_v hB8)) | (go_at_call 19; go_loud ((with_reducible refine (same_any p { p with ttl := y } A1 n1 c1 A2 n2 c2 A1 n1 c1 A2 n2 c2 wo b1 b2 b1 b2).mono ?_); rintro e w8 ⟨rfl, hB8⟩; rw [e2]; exact ret_v hB8)) | (go_at_call 19; go_loud ((with_reducible refine (same_any p q A1 n1 c1 A2 n2 c2 B1 m1 d1 B2 m2 d2 wo b1 b2 b3 b4).mono ?_); rintro e w8 ⟨rfl, hB8⟩; exact ret_v hB8)) | (go_at_call 19; go_loud ((with_reducible refine (same_any q p B1 m1 d1 B2 m2 d2 A1 n1 c1 A2 n2 c2 wo b3 b4 b1 b2).mono ?_); rintro e w8 ⟨rfl, hB8⟩; rw [sameP_comm q p]; exact ret_v hB8))))))); refine ObsK.nil ?_; intro wz hBz; simp only [finOn, List.drop_succ_cons, List.drop_zero, List.drop_nil]
  intros; go_simp
  go_wp2_with fail
  go_ret
  exact ⟨rfl, below_then T3 hBz⟩
end Go.Proofs.Ytkjhickjgncheaa

/- CtrlCuts. -/
import Derived.Test.YtogbncpchmnbdaaWalkC4
import Derived.Test.YtogbncpchmnbdaaSto
namespace Go.Proofs.Ytogbncpchmnbdaa
open Go.RowKit
set_option linter.unusedVariables false
set_option linter.unusedSimpArgs false
set_option linter.unusedSimpArgs false
set_option maxHeartbeats 4000000
set_option maxRecDepth 100000

theorem ctrlCuts_walk (w : World) (p : Pkt) (hp : p.Ok) (A1 : Option Addr) (n1 c1 : Nat) (A2 : Option Addr) (n2 c2 : Nat) (k1 : Bs w A1 n1 c1 p.opt) (k2 : Bs w A2 n2 c2 p.dat)
    (f : Frm) (hf : f.Ok) (X2 : Option Addr) (m2 d2 : Nat) (j2 : Bs w X2 m2 d2 f.dat) (hm2 : m2 ≤ 140737488351232) (x : Int) (x0 : 0 ≤ x) (x1 : x ≤ 65535) :
    Calls Try.prog 10 #[(.agg #[.int .u8 (p).tos, .int .u16 (p).id, .bool (p).keep, .int .u8 (p).ttl, .int .u8 (p).proto, .int .u32 (p).src, .int .u32 (p).dst, .slice A1 n1 c1, .slice A2 n2 c2]), (.agg #[.int .u16 (f).call, .bool (f).hs, .bool (f).ha, .int .u32 (f).seq, .int .u32 (f).ack, .slice X2 m2 d2]), .int .u16 x] w fun e w' => e = .returned (.bool true) ∧ Below w.heap.size w w' := by
  have cc := fun W k1 j1 => bg_any p A1 n1 c1 A2 n2 c2 f hf X2 m2 d2 W k1 j1 (by omega)
  obtain ⟨P2, hP2⟩ : ∃ P, bgP p f = P := ⟨_, rfl⟩
  obtain ⟨E2, hE2⟩ : ∃ E, bgE p f = E := ⟨_, rfl⟩
  simp only [hP2, hE2] at cc
  by_cases h : E2 = 0
  · subst h
    have hz := bgE_zero hE2
    rw [bgP_ok hE2] at hP2
    have n9 := wiE_len hz.2
    have hn := gN_le f
    have hd : P2.dat = gL f := by rw [← hP2]
    have hct : ∀ j, j < gN f → ∀ W A1 n1 c1 A2 n2 c2, Bs W A2 n2 c2 (P2.dat.take j) → Calls Try.prog 32 #[(.agg #[.int .u8 (P2).tos, .int .u16 (P2).id, .bool (P2).keep, .int .u8 (P2).ttl, .int .u8 (P2).proto, .int .u32 (P2).src, .int .u32 (P2).dst, .slice A1 n1 c1, .slice A2 n2 c2])] W (FrPost W zF 3) := fun j hj W A1 n1 c1 A2 n2 c2 kb => by
      rw [hd] at kb
      have e := ge_cut p f hf (by omega) hj
      have hh := gre_any { p with proto := 47, dat := (gL f).take j } A1 n1 c1 A2 n2 c2 W kb
      rw [geF_bad (by rw [e]; decide), e] at hh
      rw [← hP2]
      exact hh
    have hcm : ∀ W A1 n1 c1 A2 n2 c2, Bs W A2 n2 c2 (P2.dat ++ [0]) → Calls Try.prog 32 #[(.agg #[.int .u8 (P2).tos, .int .u16 (P2).id, .bool (P2).keep, .int .u8 (P2).ttl, .int .u8 (P2).proto, .int .u32 (P2).src, .int .u32 (P2).dst, .slice A1 n1 c1, .slice A2 n2 c2])] W (FrPost W zF 4) := fun W A1 n1 c1 A2 n2 c2 kb => by
      rw [hd] at kb
      have e := ge_more p f hf (by omega) (r := [0]) (by decide)
      have hh := gre_any { p with proto := 47, dat := gL f ++ [0] } A1 n1 c1 A2 n2 c2 W kb
      rw [geF_bad (by rw [e]; decide), e] at hh
      rw [← hP2]
      exact hh
    have hN : P2.dat.length = gN f := by rw [hd, gL_len]
    obtain ⟨N, hNN⟩ : ∃ N, gN f = N := ⟨_, rfl⟩
    rw [hNN] at hct hN n9 hn
    have n0 : 8 ≤ N := hn.2
    have n0' : (8 : Int) ≤ N := by omega
    have m0 : 0 ≤ x % (N : Int) := Int.emod_nonneg _ (by omega)
    have m1' : x % (N : Int) < N := Int.emod_lt_of_pos _ (by omega)
    have hzN : ((N : Int) == 0) = false := by simp; omega
    obtain ⟨j, hj⟩ : ∃ j : Nat, x % (N : Int) = j := ⟨(x % (N : Int)).toNat, by omega⟩
    rw [hj] at m0 m1'
    have hcj := hct j (by omega)
    have HN := Lib.hid hN
    obtain ⟨i8, hi8, -, hs8, -⟩ := info_parts info_u8
    have hl0 : (cu []).toArray = #[] := rfl
    have hl1 : (cu [0]).toArray = #[.int .u8 0] := rfl
    clear hct hN hNN hn hd hz hP2 hE2
    obtain ⟨k, hk⟩ : ∃ k : Nat, w.heap.size = k := ⟨_, rfl⟩
    obtain ⟨w1, hw1⟩ : ∃ W, ((w.alloc (.cells #[.int .u8 (p).tos, .int .u16 (p).id, .bool (p).keep, .int .u8 (p).ttl, .int .u8 (p).proto, .int .u32 (p).src, .int .u32 (p).dst, .slice A1 n1 c1, .slice A2 n2 c2] 26)).alloc (.cells #[.int .u16 (f).call, .bool (f).hs, .bool (f).ha, .int .u32 (f).seq, .int .u32 (f).ack, .slice X2 m2 d2] 30)) = W := ⟨_, rfl⟩
    have Q1 : Blk w1 k #[.int .u8 (p).tos, .int .u16 (p).id, .bool (p).keep, .int .u8 (p).ttl, .int .u8 (p).proto, .int .u32 (p).src, .int .u32 (p).dst, .slice A1 n1 c1, .slice A2 n2 c2] 26 := by rw [← hw1]; exact ((blk_new _ _ _ k (by simp [hk])).alloc _)
    have F1 : Blk w1 (k + 1) #[.int .u16 (f).call, .bool (f).hs, .bool (f).ha, .int .u32 (f).seq, .int .u32 (f).ack, .slice X2 m2 d2] 30 := by rw [← hw1]; exact (blk_new _ _ _ (k + 1) (by simp [hk]))
    have R1 : Below w.heap.size w w1 := by rw [← hw1]; (repeat (first | with_reducible exact Below.refl _ _ | with_reducible refine below_drew ?_ | with_reducible refine below_drewN ?_ _ | with_reducible refine below_alloc ?_ (Nat.le_refl _) _ | with_reducible refine Below.setCell ?_ (by first | exact Nat.le_refl _ | (simp only []; omega)) _ | with_reducible assumption))
    have Qc1 := Q1.cell
    have Fc1 := F1.cell
    have Ql1 := Q1.lt
    have Fl1 := F1.lt
    have x1 := (k1).below R1
    have y1 := (j2).below R1
    clear k1 k2 j2
    go_enter Try.func10, Try.ntmps10
    go_wp2_with (first
      | (go_at_call 16; go_loud ((with_reducible refine (cc _ x1 y1).mono ?_); rintro e u2 hpost; (obtain ⟨B2, e2, g2, C2, h2, i2, rfl, O2, N2, hB2⟩ := hpost.out); clear hpost; have uN : h2 = N := (by rw [← N2.len]; exact HN.out); subst uN; (obtain ⟨g, rfl, gl1, gl2⟩ := N2.ptr (by omega)); (obtain ⟨w2, hw2⟩ : ∃ W, u2.alloc (.cells #[.int .u8 (P2).tos, .int .u16 (P2).id, .bool (P2).keep, .int .u8 (P2).ttl, .int .u8 (P2).proto, .int .u32 (P2).src, .int .u32 (P2).dst, .slice B2 e2 g2, .slice (some ⟨g, 0, none⟩) h2 i2] 26) = W := ⟨_, rfl⟩); have V2 : Below u2.heap.size u2 w2 := (by rw [← hw2]; (repeat (first | with_reducible exact Below.refl _ _ | with_reducible refine below_drew ?_ | with_reducible refine below_drewN ?_ _ | with_reducible refine below_alloc ?_ (Nat.le_refl _) _ | with_reducible refine Below.setCell ?_ (by first | exact Nat.le_refl _ | (simp only []; omega)) _ | with_reducible assumption))); (obtain ⟨kS2, hkS2⟩ : ∃ k : Nat, u2.heap.size = k := ⟨_, rfl⟩); have S2 : Blk w2 kS2 #[.int .u8 (P2).tos, .int .u16 (P2).id, .bool (P2).keep, .int .u8 (P2).ttl, .int .u8 (P2).proto, .int .u32 (P2).src, .int .u32 (P2).dst, .slice B2 e2 g2, .slice (some ⟨g, 0, none⟩) h2 i2] 26 := (by rw [← hw2]; exact blk_new u2 _ _ _ hkS2); have Sc2 := S2.cell; have T2 := below_then hB2 V2; have o2 := (N2).below V2; have Q2 := Q1.below T2; have Qc2 := Q2.cell; clear Qc1; have F2 := F1.below T2; have Fc2 := F2.cell; clear Fc1; have x2 := x1.below T2; have y2 := y1.below T2; have R2 := below_then R1 T2)))
    have hcap2 := N2.bs.cap
    have hcut4 : ∀ W, (Instr.slice 24 (.slice (some ⟨g, 0, none⟩) h2 i2) none (some (.int .i64 (j : Int))) none).run Try.prog W = .ok (.slice (some ⟨g, 0, none⟩) j i2) W := fun W => by
      rw [cut_h Try.underlying24 hi8 hs8 (some ⟨g, 0, none⟩) h2 i2 .i64 (j : Int) (by omega) (by omega) W]; simp [Addr.add]
    obtain ⟨y, hy⟩ : ∃ y : Nat, w2.heap.size = y := ⟨_, rfl⟩
    obtain ⟨v1, hv1⟩ : ∃ W, w2.alloc (.cells #[.int .u8 0, .int .u16 0, .bool false, .int .u8 0, .int .u8 0, .int .u32 0, .int .u32 0, .slice none 0 0, .slice none 0 0] 26) = W := ⟨_, rfl⟩
    have hy1 : v1.heap.size = y + 1 := by rw [← hv1]; simp [hy]
    obtain ⟨v, hv⟩ : ∃ W, v1.alloc (.cells #[.int .u8 0, .int .u16 0, .bool false, .int .u8 0, .int .u8 0, .int .u32 0, .int .u32 0, .slice none 0 0, .slice none 0 0] 26) = W := ⟨_, rfl⟩
    have Yb : Blk v (y + 1) #[.int .u8 0, .int .u16 0, .bool false, .int .u8 0, .int .u8 0, .int .u32 0, .int .u32 0, .slice none 0 0, .slice none 0 0] 26 := by rw [← hv]; exact blk_new v1 _ _ _ hy1
    have Ya : Blk v y #[.int .u8 0, .int .u16 0, .bool false, .int .u8 0, .int .u8 0, .int .u32 0, .int .u32 0, .slice none 0 0, .slice none 0 0] 26 := by rw [← hv, ← hv1]; exact (blk_new w2 _ _ _ hy).alloc _
    have V1 : Below w2.heap.size w2 v1 := by rw [← hv1]; (repeat (first | with_reducible exact Below.refl _ _ | with_reducible refine below_drew ?_ | with_reducible refine below_drewN ?_ _ | with_reducible refine below_alloc ?_ (Nat.le_refl _) _ | with_reducible refine Below.setCell ?_ (by first | exact Nat.le_refl _ | (simp only []; omega)) _ | with_reducible assumption))
    have V : Below w2.heap.size w2 v := by rw [← hv, ← hv1]; (repeat (first | with_reducible exact Below.refl _ _ | with_reducible refine below_drew ?_ | with_reducible refine below_drewN ?_ _ | with_reducible refine below_alloc ?_ (Nat.le_refl _) _ | with_reducible refine Below.setCell ?_ (by first | exact Nat.le_refl _ | (simp only []; omega)) _ | with_reducible assumption))
    obtain ⟨va, hva, Sa⟩ := store9 Ya (.int .u8 P2.tos) (.int .u16 P2.id) (.bool P2.keep) (.int .u8 P2.ttl) (.int .u8 P2.proto) (.int .u32 P2.src) (.int .u32 P2.dst) (.slice B2 e2 g2) (.slice (some ⟨g, 0, none⟩) h2 i2)
    obtain ⟨vb, hvb, Sb⟩ := store9 Yb (.int .u8 P2.tos) (.int .u16 P2.id) (.bool P2.keep) (.int .u8 P2.ttl) (.int .u8 P2.proto) (.int .u32 P2.src) (.int .u32 P2.dst) (.slice B2 e2 g2) (.slice (some ⟨g, 0, none⟩) h2 i2)
    obtain ⟨vab, hvab, Sab⟩ := store9 (Sa.other (by omega) Yb) (.int .u8 P2.tos) (.int .u16 P2.id) (.bool P2.keep) (.int .u8 P2.ttl) (.int .u8 P2.proto) (.int .u32 P2.src) (.int .u32 P2.dst) (.slice B2 e2 g2) (.slice (some ⟨g, 0, none⟩) h2 i2)
    obtain ⟨vba, hvba, Sba⟩ := store9 (Sb.other (by omega) Ya) (.int .u8 P2.tos) (.int .u16 P2.id) (.bool P2.keep) (.int .u8 P2.ttl) (.int .u8 P2.proto) (.int .u32 P2.src) (.int .u32 P2.dst) (.slice B2 e2 g2) (.slice (some ⟨g, 0, none⟩) h2 i2)
    have sl := S2.lt
    have s1 := (S2.below V1).cell
    have s0 := (S2.below V).cell
    have sa := (Sa.other (by omega) (S2.below V)).cell
    have sb := (Sb.other (by omega) (S2.below V)).cell
    have ya := Ya.cell
    have yb := Yb.cell
    have ya2 := (Sb.other (by omega) Ya).cell
    have yb2 := (Sa.other (by omega) Yb).cell
    go_region
    · have G9 : Blk vab.drew y #[.int .u8 (P2).tos, .int .u16 (P2).id, .bool (P2).keep, .int .u8 (P2).ttl, .int .u8 (P2).proto, .int .u32 (P2).src, .int .u32 (P2).dst, .slice B2 e2 g2, .slice (some ⟨g, 0, none⟩) h2 i2] 26 := (Sab.other (by omega) Sa.blk).drew
      have G10 : Blk vab.drew (y + 1) #[.int .u8 (P2).tos, .int .u16 (P2).id, .bool (P2).keep, .int .u8 (P2).ttl, .int .u8 (P2).proto, .int .u32 (P2).src, .int .u32 (P2).dst, .slice B2 e2 g2, .slice (some ⟨g, 0, none⟩) h2 i2] 26 := Sab.blk.drew
      have V3 : Below w2.heap.size w2 vab.drew := below_drew (Sab.bel (Sa.bel V (by omega)) (by omega))
      obtain ⟨r9, hr9⟩ : ∃ r, y = r := ⟨_, rfl⟩
      obtain ⟨r10, hr10⟩ : ∃ r, (y + 1) = r := ⟨_, rfl⟩
      have ne9 : r9 ≠ r10 := by omega
      have ge9 : w2.heap.size ≤ r9 := by omega
      have ge10 : w2.heap.size ≤ r10 := by omega
      rw [hr9] at G9
      rw [hr10] at G10
      simp only [hr10]
      simp only [hr9]
      clear hva hvb hvab hvba s1 s0 sa sb ya yb ya2 yb2 Sa Sb Sab Sba Ya Yb
      generalize vab.drew = w3 at G9 G10 V3 ⊢
      clear hv hv1 hy1 V1 V hr9 hr10
      
      have Q3 := Q2.below V3
      have Qc3 := Q3.cell
      clear Qc2
      have F3 := F2.below V3
      have Fc3 := F3.cell
      clear Fc2
      have S3 := S2.below V3
      have Sc3 := S3.cell
      clear Sc2
      have x3 := x2.below V3
      have y3 := y2.below V3
      have o3 := o2.below V3
      have R3 := below_then R2 V3
      have sl3 := S3.lt
      have R2s := R2.size
      have hq0 : (h2 = 0) = False := by simp; omega
      have hrem : (IntKind.i64.wrap x).tmod (h2 : Int) = (j : Int) := by
        rw [show IntKind.i64.wrap x = x from by rw [IntKind.wrap_i64]; omega, Int.tmod_eq_emod_of_nonneg x0, hj]
      go_wp2_with fail
      refine region_txt 9 (by kernel_rfl) (by kernel_rfl) ?_; (iterate 9 (first | (apply ObsK.skip (by rfl)) | (apply ObsK.v (by rfl); (intro wo hT; (repeat (first | (intro _ _ k; try have hcv := cv k))); (have sc := (S3.below hT).cell); refine Goes.mk ?_; go_simp; first | exact goes_v | exact goes_b (by assumption) | (refine goes_enter ?_; first | fail))) | (apply ObsK.b (by rfl); (intro wo hT; (repeat (first | (intro _ _ k; try have hcv := cv k))); (have sc := (S3.below hT).cell); refine Goes.mk ?_; go_simp; first | exact goes_v | exact goes_b (by assumption) | (refine goes_enter ?_; first | fail))))); refine ObsK.nil ?_; intro wz hBz; simp only [finOn, List.drop_succ_cons, List.drop_zero, List.drop_nil]
      go_simp
      have H9 := G9.below hBz
      have H10 := G10.below hBz
      have h9c := H9.cell
      have h9l := H9.lt
      have h10l := H10.lt
      have S4 := S3.below hBz
      have o4 := o3.below hBz
      have R4 := below_then R3 hBz
      have V4 := below_then V3 hBz
      obtain ⟨v5, hv5, S5⟩ := store1 H9 8 (.slice (some ⟨g, 0, none⟩) j i2)
      simp only [List.setIfInBounds_toArray, List.set_cons_zero, List.set_cons_succ] at S5
      have K9 := S5.blk
      have K10 := S5.other (Ne.symm ne9) H10
      have Z5 := S5.other (by omega) S4
      have zc5 := Z5.cell
      have zc5a := fun o => (Z5.alloc o).cell
      have V5 := S5.bel V4 ge9
      have R5 := S5.bel R4 (by omega)
      have ob5 := o2.bs.below V5
      clear h9c
      have h9c := H9.cell
      have hb1 : ∀ W : World, Bs (W.alloc (.cells #[.int .u8 0] 5)) (some ⟨W.heap.size, 0, none⟩) 1 1 [0] := fun W => bs_litk [0] 1 rfl rfl (by omega)
      have k9l := K9.lt
      have k10l := K10.lt
      go_wp2_with (first
        | (at_builtin; go_loud (refine wpList_append_bs (w0 := v5) _ rfl _ _ _ rfl v5.heap.size 5 Try.underlying24 info_u8 (some ⟨_, 0, none⟩) 0 0 [] rfl (own_litk _ _ (by simp) v5.heap.size 5 [] 0 rfl (by omega) (by omega)) (some ⟨g, 0, none⟩) h2 i2 P2.dat rfl (ob5.alloc _) (by (repeat (first | with_reducible exact Below.refl _ _ | with_reducible refine below_drew ?_ | with_reducible refine below_drewN ?_ _ | with_reducible refine below_alloc ?_ (Nat.le_refl _) _ | with_reducible refine Below.setCell ?_ (by first | exact Nat.le_refl _ | (simp only []; omega)) _ | with_reducible assumption))) (by omega) (by first | exact Nat.le_refl _ | exact Below.size (by (repeat (first | with_reducible exact Below.refl _ _ | with_reducible refine below_drew ?_ | with_reducible refine below_drewN ?_ _ | with_reducible refine below_alloc ?_ (Nat.le_refl _) _ | with_reducible refine Below.setCell ?_ (by first | exact Nat.le_refl _ | (simp only []; omega)) _ | with_reducible assumption))) | omega | (simp <;> omega)) ?_); intro A6 n6 c6 w6 ho6 hB6 _ hz6; have u6 : h2 = n6 := (by have := ho6.len; have := ob5.len; simp at *; omega); subst u6; replace ho6 : Own w6 v5.heap.size 5 A6 h2 c6 P2.dat := ho6)
        | (at_builtin; go_loud (refine wpList_append_bs (w0 := v5) _ rfl _ _ _ rfl v5.heap.size 5 Try.underlying24 info_u8 A6 h2 c6 P2.dat rfl (ho6.alloc _) (some ⟨_, 0, none⟩) 1 1 [0] rfl (hb1 _) (below_alloc hB6 (Nat.le_refl _) _) (by omega) (by first | exact Nat.le_refl _ | exact Below.size (below_alloc hB6 (Nat.le_refl _) _) | omega | (simp <;> omega)) ?_); intro A7 n7 c7 w7 ho7 hB7 _ hz7; have D7 := K10.below hB7; have D7c := D7.cell; have C7 := K9.below hB7; (obtain ⟨w8, hw8, S8⟩ := store1 D7 8 (.slice A7 n7 c7)); simp only [List.setIfInBounds_toArray, List.set_cons_zero, List.set_cons_succ] at S8; have D8 := S8.blk; have C8 := S8.other ne9 C7; have Dc8 := D8.cell; have Cc8 := C8.cell; have V8 := S8.bel (below_then V5 hB7) ge10; have R8 := S8.bel (below_then R5 hB7) (by omega); have n8 := S8.own ho7 (fun a e => by have := ho7.ge a e; omega); have z8 := (o2.bs.below V8).takeN (k := j) (by omega))
        
        | (go_at_call 32; go_loud ((with_reducible refine (hcj _ _ _ _ _ _ _ z8).mono ?_); rintro e u9 hpost; (obtain ⟨B9, m9, d9, rfl, O9, hB9⟩ := hpost.out); clear hpost; (obtain ⟨w9, hw9⟩ : ∃ W, u9.alloc (.cells #[.int .u16 (zF).call, .bool (zF).hs, .bool (zF).ha, .int .u32 (zF).seq, .int .u32 (zF).ack, .slice B9 m9 d9] 30) = W := ⟨_, rfl⟩); have V9 : Below u9.heap.size u9 w9 := (by rw [← hw9]; (repeat (first | with_reducible exact Below.refl _ _ | with_reducible refine below_drew ?_ | with_reducible refine below_drewN ?_ _ | with_reducible refine below_alloc ?_ (Nat.le_refl _) _ | with_reducible refine Below.setCell ?_ (by first | exact Nat.le_refl _ | (simp only []; omega)) _ | with_reducible assumption))); (obtain ⟨kU9, hkU9⟩ : ∃ k : Nat, u9.heap.size = k := ⟨_, rfl⟩); have U9 : Blk w9 kU9 #[.int .u16 (zF).call, .bool (zF).hs, .bool (zF).ha, .int .u32 (zF).seq, .int .u32 (zF).ack, .slice B9 m9 d9] 30 := (by rw [← hw9]; exact blk_new u9 _ _ _ hkU9); have Uc9 := U9.cell; have T9 := below_then hB9 V9; have C9 := C8.below T9; have Cc9 := C9.cell; clear Cc8; have D9 := D8.below T9; have Dc9 := D9.cell; clear Dc8; have z9 := z8.below T9; have n9 := n8.below T9; have R9 := below_then R8 T9))
        | (go_at_call 32; go_loud ((with_reducible refine (hcm _ _ _ _ _ _ _ n9.bs).mono ?_); rintro e u10 hpost; (obtain ⟨B10, m10, d10, rfl, O10, hB10⟩ := hpost.out); clear hpost; (obtain ⟨w10, hw10⟩ : ∃ W, u10.alloc (.cells #[.int .u16 (zF).call, .bool (zF).hs, .bool (zF).ha, .int .u32 (zF).seq, .int .u32 (zF).ack, .slice B10 m10 d10] 30) = W := ⟨_, rfl⟩); have V10 : Below u10.heap.size u10 w10 := (by rw [← hw10]; (repeat (first | with_reducible exact Below.refl _ _ | with_reducible refine below_drew ?_ | with_reducible refine below_drewN ?_ _ | with_reducible refine below_alloc ?_ (Nat.le_refl _) _ | with_reducible refine Below.setCell ?_ (by first | exact Nat.le_refl _ | (simp only []; omega)) _ | with_reducible assumption))); (obtain ⟨kU10, hkU10⟩ : ∃ k : Nat, u10.heap.size = k := ⟨_, rfl⟩); have U10 : Blk w10 kU10 #[.int .u16 (zF).call, .bool (zF).hs, .bool (zF).ha, .int .u32 (zF).seq, .int .u32 (zF).ack, .slice B10 m10 d10] 30 := (by rw [← hw10]; exact blk_new u10 _ _ _ hkU10); have Uc10 := U10.cell; have T10 := below_then hB10 V10; have C10 := C9.below T10; have Cc10 := C10.cell; clear Cc9; have D10 := D9.below T10; have Dc10 := D10.cell; clear Dc9; have z10 := z9.below T10; have n10 := n9.below T10; have R10 := below_then R9 T10))
        | (go_at_call 18; go_loud ((with_reducible refine (live04_any _).mono ?_); rintro e w11 ⟨rfl, hB11⟩; have C11 := C10.below hB11; have Cc11 := C11.cell; clear Cc10; have D11 := D10.below hB11; have Dc11 := D11.cell; clear Dc10; have U11 := U10.below hB11; have Uc11 := U11.cell; clear Uc10; have z11 := z10.below hB11; have n11 := n10.below hB11; have R11 := below_then R10 hB11)))
      go_ret
      exact ⟨rfl, R11⟩
    · have G9 : Blk vba.drew (y + 1) #[.int .u8 (P2).tos, .int .u16 (P2).id, .bool (P2).keep, .int .u8 (P2).ttl, .int .u8 (P2).proto, .int .u32 (P2).src, .int .u32 (P2).dst, .slice B2 e2 g2, .slice (some ⟨g, 0, none⟩) h2 i2] 26 := (Sba.other (by omega) Sb.blk).drew
      have G10 : Blk vba.drew y #[.int .u8 (P2).tos, .int .u16 (P2).id, .bool (P2).keep, .int .u8 (P2).ttl, .int .u8 (P2).proto, .int .u32 (P2).src, .int .u32 (P2).dst, .slice B2 e2 g2, .slice (some ⟨g, 0, none⟩) h2 i2] 26 := Sba.blk.drew
      have V3 : Below w2.heap.size w2 vba.drew := below_drew (Sba.bel (Sb.bel V (by omega)) (by omega))
      obtain ⟨r9, hr9⟩ : ∃ r, (y + 1) = r := ⟨_, rfl⟩
      obtain ⟨r10, hr10⟩ : ∃ r, y = r := ⟨_, rfl⟩
      have ne9 : r9 ≠ r10 := by omega
      have ge9 : w2.heap.size ≤ r9 := by omega
      have ge10 : w2.heap.size ≤ r10 := by omega
      rw [hr9] at G9
      rw [hr10] at G10
      simp only [hr9]
      simp only [hr10]
      clear hva hvb hvab hvba s1 s0 sa sb ya yb ya2 yb2 Sa Sb Sab Sba Ya Yb
      generalize vba.drew = w3 at G9 G10 V3 ⊢
      clear hv hv1 hy1 V1 V hr9 hr10
      
      have Q3 := Q2.below V3
      have Qc3 := Q3.cell
      clear Qc2
      have F3 := F2.below V3
      have Fc3 := F3.cell
      clear Fc2
      have S3 := S2.below V3
      have Sc3 := S3.cell
      clear Sc2
      have x3 := x2.below V3
      have y3 := y2.below V3
      have o3 := o2.below V3
      have R3 := below_then R2 V3
      have sl3 := S3.lt
      have R2s := R2.size
      have hq0 : (h2 = 0) = False := by simp; omega
      have hrem : (IntKind.i64.wrap x).tmod (h2 : Int) = (j : Int) := by
        rw [show IntKind.i64.wrap x = x from by rw [IntKind.wrap_i64]; omega, Int.tmod_eq_emod_of_nonneg x0, hj]
      go_wp2_with fail
      refine region_txt 9 (by kernel_rfl) (by kernel_rfl) ?_; (iterate 9 (first | (apply ObsK.skip (by rfl)) | (apply ObsK.v (by rfl); (intro wo hT; (repeat (first | (intro _ _ k; try have hcv := cv k))); (have sc := (S3.below hT).cell); refine Goes.mk ?_; go_simp; first | exact goes_v | exact goes_b (by assumption) | (refine goes_enter ?_; first | fail))) | (apply ObsK.b (by rfl); (intro wo hT; (repeat (first | (intro _ _ k; try have hcv := cv k))); (have sc := (S3.below hT).cell); refine Goes.mk ?_; go_simp; first | exact goes_v | exact goes_b (by assumption) | (refine goes_enter ?_; first | fail))))); refine ObsK.nil ?_; intro wz hBz; simp only [finOn, List.drop_succ_cons, List.drop_zero, List.drop_nil]
      go_simp
      have H9 := G9.below hBz
      have H10 := G10.below hBz
      have h9c := H9.cell
      have h9l := H9.lt
      have h10l := H10.lt
      have S4 := S3.below hBz
      have o4 := o3.below hBz
      have R4 := below_then R3 hBz
      have V4 := below_then V3 hBz
      obtain ⟨v5, hv5, S5⟩ := store1 H9 8 (.slice (some ⟨g, 0, none⟩) j i2)
      simp only [List.setIfInBounds_toArray, List.set_cons_zero, List.set_cons_succ] at S5
      have K9 := S5.blk
      have K10 := S5.other (Ne.symm ne9) H10
      have Z5 := S5.other (by omega) S4
      have zc5 := Z5.cell
      have zc5a := fun o => (Z5.alloc o).cell
      have V5 := S5.bel V4 ge9
      have R5 := S5.bel R4 (by omega)
      have ob5 := o2.bs.below V5
      clear h9c
      have h9c := H9.cell
      have hb1 : ∀ W : World, Bs (W.alloc (.cells #[.int .u8 0] 5)) (some ⟨W.heap.size, 0, none⟩) 1 1 [0] := fun W => bs_litk [0] 1 rfl rfl (by omega)
      have k9l := K9.lt
      have k10l := K10.lt
      go_wp2_with (first
        | (at_builtin; go_loud (refine wpList_append_bs (w0 := v5) _ rfl _ _ _ rfl v5.heap.size 5 Try.underlying24 info_u8 (some ⟨_, 0, none⟩) 0 0 [] rfl (own_litk _ _ (by simp) v5.heap.size 5 [] 0 rfl (by omega) (by omega)) (some ⟨g, 0, none⟩) h2 i2 P2.dat rfl (ob5.alloc _) (by (repeat (first | with_reducible exact Below.refl _ _ | with_reducible refine below_drew ?_ | with_reducible refine below_drewN ?_ _ | with_reducible refine below_alloc ?_ (Nat.le_refl _) _ | with_reducible refine Below.setCell ?_ (by first | exact Nat.le_refl _ | (simp only []; omega)) _ | with_reducible assumption))) (by omega) (by first | exact Nat.le_refl _ | exact Below.size (by (repeat (first | with_reducible exact Below.refl _ _ | with_reducible refine below_drew ?_ | with_reducible refine below_drewN ?_ _ | with_reducible refine below_alloc ?_ (Nat.le_refl _) _ | with_reducible refine Below.setCell ?_ (by first | exact Nat.le_refl _ | (simp only []; omega)) _ | with_reducible assumption))) | omega | (simp <;> omega)) ?_); intro A6 n6 c6 w6 ho6 hB6 _ hz6; have u6 : h2 = n6 := (by have := ho6.len; have := ob5.len; simp at *; omega); subst u6; replace ho6 : Own w6 v5.heap.size 5 A6 h2 c6 P2.dat := ho6)
        | (at_builtin; go_loud (refine wpList_append_bs (w0 := v5) _ rfl _ _ _ rfl v5.heap.size 5 Try.underlying24 info_u8 A6 h2 c6 P2.dat rfl (ho6.alloc _) (some ⟨_, 0, none⟩) 1 1 [0] rfl (hb1 _) (below_alloc hB6 (Nat.le_refl _) _) (by omega) (by first | exact Nat.le_refl _ | exact Below.size (below_alloc hB6 (Nat.le_refl _) _) | omega | (simp <;> omega)) ?_); intro A7 n7 c7 w7 ho7 hB7 _ hz7; have D7 := K10.below hB7; have D7c := D7.cell; have C7 := K9.below hB7; (obtain ⟨w8, hw8, S8⟩ := store1 D7 8 (.slice A7 n7 c7)); simp only [List.setIfInBounds_toArray, List.set_cons_zero, List.set_cons_succ] at S8; have D8 := S8.blk; have C8 := S8.other ne9 C7; have Dc8 := D8.cell; have Cc8 := C8.cell; have V8 := S8.bel (below_then V5 hB7) ge10; have R8 := S8.bel (below_then R5 hB7) (by omega); have n8 := S8.own ho7 (fun a e => by have := ho7.ge a e; omega); have z8 := (o2.bs.below V8).takeN (k := j) (by omega))
        
        | (go_at_call 32; go_loud ((with_reducible refine (hcj _ _ _ _ _ _ _ z8).mono ?_); rintro e u9 hpost; (obtain ⟨B9, m9, d9, rfl, O9, hB9⟩ := hpost.out); clear hpost; (obtain ⟨w9, hw9⟩ : ∃ W, u9.alloc (.cells #[.int .u16 (zF).call, .bool (zF).hs, .bool (zF).ha, .int .u32 (zF).seq, .int .u32 (zF).ack, .slice B9 m9 d9] 30) = W := ⟨_, rfl⟩); have V9 : Below u9.heap.size u9 w9 := (by rw [← hw9]; (repeat (first | with_reducible exact Below.refl _ _ | with_reducible refine below_drew ?_ | with_reducible refine below_drewN ?_ _ | with_reducible refine below_alloc ?_ (Nat.le_refl _) _ | with_reducible refine Below.setCell ?_ (by first | exact Nat.le_refl _ | (simp only []; omega)) _ | with_reducible assumption))); (obtain ⟨kU9, hkU9⟩ : ∃ k : Nat, u9.heap.size = k := ⟨_, rfl⟩); have U9 : Blk w9 kU9 #[.int .u16 (zF).call, .bool (zF).hs, .bool (zF).ha, .int .u32 (zF).seq, .int .u32 (zF).ack, .slice B9 m9 d9] 30 := (by rw [← hw9]; exact blk_new u9 _ _ _ hkU9); have Uc9 := U9.cell; have T9 := below_then hB9 V9; have C9 := C8.below T9; have Cc9 := C9.cell; clear Cc8; have D9 := D8.below T9; have Dc9 := D9.cell; clear Dc8; have z9 := z8.below T9; have n9 := n8.below T9; have R9 := below_then R8 T9))
        | (go_at_call 32; go_loud ((with_reducible refine (hcm _ _ _ _ _ _ _ n9.bs).mono ?_); rintro e u10 hpost; (obtain ⟨B10, m10, d10, rfl, O10, hB10⟩ := hpost.out); clear hpost; (obtain ⟨w10, hw10⟩ : ∃ W, u10.alloc (.cells #[.int .u16 (zF).call, .bool (zF).hs, .bool (zF).ha, .int .u32 (zF).seq, .int .u32 (zF).ack, .slice B10 m10 d10] 30) = W := ⟨_, rfl⟩); have V10 : Below u10.heap.size u10 w10 := (by rw [← hw10]; (repeat (first | with_reducible exact Below.refl _ _ | with_reducible refine below_drew ?_ | with_reducible refine below_drewN ?_ _ | with_reducible refine below_alloc ?_ (Nat.le_refl _) _ | with_reducible refine Below.setCell ?_ (by first | exact Nat.le_refl _ | (simp only []; omega)) _ | with_reducible assumption))); (obtain ⟨kU10, hkU10⟩ : ∃ k : Nat, u10.heap.size = k := ⟨_, rfl⟩); have U10 : Blk w10 kU10 #[.int .u16 (zF).call, .bool (zF).hs, .bool (zF).ha, .int .u32 (zF).seq, .int .u32 (zF).ack, .slice B10 m10 d10] 30 := (by rw [← hw10]; exact blk_new u10 _ _ _ hkU10); have Uc10 := U10.cell; have T10 := below_then hB10 V10; have C10 := C9.below T10; have Cc10 := C10.cell; clear Cc9; have D10 := D9.below T10; have Dc10 := D10.cell; clear Dc9; have z10 := z9.below T10; have n10 := n9.below T10; have R10 := below_then R9 T10))
        | (go_at_call 18; go_loud ((with_reducible refine (live04_any _).mono ?_); rintro e w11 ⟨rfl, hB11⟩; have C11 := C10.below hB11; have Cc11 := C11.cell; clear Cc10; have D11 := D10.below hB11; have Dc11 := D11.cell; clear Dc10; have U11 := U10.below hB11; have Uc11 := U11.cell; clear Uc10; have z11 := z10.below hB11; have n11 := n10.below hB11; have R11 := below_then R10 hB11)))
      go_ret
      exact ⟨rfl, R11⟩
  · have he : (E2 != 0) = true := by simpa using h
    clear h hP2 hE2
    obtain ⟨k, hk⟩ : ∃ k : Nat, w.heap.size = k := ⟨_, rfl⟩
    obtain ⟨w1, hw1⟩ : ∃ W, ((w.alloc (.cells #[.int .u8 (p).tos, .int .u16 (p).id, .bool (p).keep, .int .u8 (p).ttl, .int .u8 (p).proto, .int .u32 (p).src, .int .u32 (p).dst, .slice A1 n1 c1, .slice A2 n2 c2] 26)).alloc (.cells #[.int .u16 (f).call, .bool (f).hs, .bool (f).ha, .int .u32 (f).seq, .int .u32 (f).ack, .slice X2 m2 d2] 30)) = W := ⟨_, rfl⟩
    have Q1 : Blk w1 k #[.int .u8 (p).tos, .int .u16 (p).id, .bool (p).keep, .int .u8 (p).ttl, .int .u8 (p).proto, .int .u32 (p).src, .int .u32 (p).dst, .slice A1 n1 c1, .slice A2 n2 c2] 26 := by rw [← hw1]; exact ((blk_new _ _ _ k (by simp [hk])).alloc _)
    have F1 : Blk w1 (k + 1) #[.int .u16 (f).call, .bool (f).hs, .bool (f).ha, .int .u32 (f).seq, .int .u32 (f).ack, .slice X2 m2 d2] 30 := by rw [← hw1]; exact (blk_new _ _ _ (k + 1) (by simp [hk]))
    have R1 : Below w.heap.size w w1 := by rw [← hw1]; (repeat (first | with_reducible exact Below.refl _ _ | with_reducible refine below_drew ?_ | with_reducible refine below_drewN ?_ _ | with_reducible refine below_alloc ?_ (Nat.le_refl _) _ | with_reducible refine Below.setCell ?_ (by first | exact Nat.le_refl _ | (simp only []; omega)) _ | with_reducible assumption))
    have Qc1 := Q1.cell
    have Fc1 := F1.cell
    have Ql1 := Q1.lt
    have Fl1 := F1.lt
    have x1 := (k1).below R1
    have y1 := (j2).below R1
    clear k1 k2 j2
    go_enter Try.func10, Try.ntmps10
    go_wp2_with (first
      | (go_at_call 16; go_loud ((with_reducible refine (cc _ x1 y1).mono ?_); rintro e u2 hpost; (obtain ⟨B2, e2, g2, C2, h2, i2, rfl, O2, N2, hB2⟩ := hpost.out); clear hpost; (obtain ⟨w2, hw2⟩ : ∃ W, u2.alloc (.cells #[.int .u8 (P2).tos, .int .u16 (P2).id, .bool (P2).keep, .int .u8 (P2).ttl, .int .u8 (P2).proto, .int .u32 (P2).src, .int .u32 (P2).dst, .slice B2 e2 g2, .slice C2 h2 i2] 26) = W := ⟨_, rfl⟩); have V2 : Below u2.heap.size u2 w2 := (by rw [← hw2]; (repeat (first | with_reducible exact Below.refl _ _ | with_reducible refine below_drew ?_ | with_reducible refine below_drewN ?_ _ | with_reducible refine below_alloc ?_ (Nat.le_refl _) _ | with_reducible refine Below.setCell ?_ (by first | exact Nat.le_refl _ | (simp only []; omega)) _ | with_reducible assumption))); (obtain ⟨kS2, hkS2⟩ : ∃ k : Nat, u2.heap.size = k := ⟨_, rfl⟩); have S2 : Blk w2 kS2 #[.int .u8 (P2).tos, .int .u16 (P2).id, .bool (P2).keep, .int .u8 (P2).ttl, .int .u8 (P2).proto, .int .u32 (P2).src, .int .u32 (P2).dst, .slice B2 e2 g2, .slice C2 h2 i2] 26 := (by rw [← hw2]; exact blk_new u2 _ _ _ hkS2); have Sc2 := S2.cell; have T2 := below_then hB2 V2; have Q2 := Q1.below T2; have Qc2 := Q2.cell; clear Qc1; have F2 := F1.below T2; have Fc2 := F2.cell; clear Fc1; have x2 := x1.below T2; have y2 := y1.below T2; have R2 := below_then R1 T2))
      | (go_at_call 18; go_loud ((with_reducible refine (live04_any _).mono ?_); rintro e w3 ⟨rfl, hB3⟩; have Q3 := Q2.below hB3; have Qc3 := Q3.cell; clear Qc2; have F3 := F2.below hB3; have Fc3 := F3.cell; clear Fc2; have S3 := S2.below hB3; have Sc3 := S3.cell; clear Sc2; have x3 := x2.below hB3; have y3 := y2.below hB3; have R3 := below_then R2 hB3)))
    go_ret
    exact ⟨rfl, R3⟩
end Go.Proofs.Ytogbncpchmnbdaa

/- Parts of the proofs of this seat, laid together. -/
import Derived.Test.YtjhpmeagopdaiaaGreatMc4
namespace Go.Proofs.YtjhpmeagopdaiaaGreat
open Go.RowKit Go.MapKept
set_option linter.unusedVariables false
set_option linter.unusedSimpArgs false
set_option maxHeartbeats 8000000
set_option maxRecDepth 100000
theorem quo_1 (p : Pkt) (A1 : Option Addr) (n1 c1 : Nat) (A2 : Option Addr) (n2 c2 : Nat) (w : World) (k2 : Bs w A2 n2 c2 p.dat) (s : Msg) (E : Int) (ht : ∀ W, Bs W A2 n2 c2 p.dat → Calls Tryz.prog 17 #[(.agg #[.int .u8 (p).tos, .int .u16 (p).id, .bool (p).keep, .int .u8 (p).ttl, .int .u8 (p).proto, .int .u32 (p).src, .int .u32 (p).dst, .slice A1 n1 c1, .slice A2 n2 c2])] W (MsPost W s E)) (h0 : E ≠ 0) :
    Calls Tryz.prog 16 #[(.agg #[.int .u8 (p).tos, .int .u16 (p).id, .bool (p).keep, .int .u8 (p).ttl, .int .u8 (p).proto, .int .u32 (p).src, .int .u32 (p).dst, .slice A1 n1 c1, .slice A2 n2 c2])] w (TtPost w zT E) := by
  have h0b : (E != 0) = true := by simpa using h0
  clear h0
  obtain ⟨k, hk, w1, hw1, P1, Z1, R1⟩ := nwI2 w #[.int .u8 (p).tos, .int .u16 (p).id, .bool (p).keep, .int .u8 (p).ttl, .int .u8 (p).proto, .int .u32 (p).src, .int .u32 (p).dst, .slice A1 n1 c1, .slice A2 n2 c2] 26 #[.int .u8 0, .int .u32 0, .int .u32 0, .int .u16 0, .int .u16 0] 29
  have Pc1 := P1.cell
  have Zc1 := Z1.cell
  have Pl1 := P1.lt
  have Zl1 := Z1.lt
  have x1 := (k2).below R1
  go_enter Tryz.func16, Tryz.ntmps16
  go_wp2_with (go_at_call 17; ((with_reducible refine (ht w1 x1).mono ?_); rintro e u2 ⟨⟨DA, dn, dc, rfl, ho, hB2⟩⟩); (obtain ⟨w2, hw2, V2, kS2, hkS2, S2⟩ := nw1 u2 #[.int .u8 (s).ty, .int .u8 (s).code, .int .u32 (s).rest, .slice DA dn dc] 42); have Sc2 := S2.cell; have T2 := below_then hB2 V2; have y2 := (ho.bs).below V2; have P2 := P1.below T2; have Pc2 := P2.cell; clear Pc1; have Z2 := Z1.below T2; have Zc2 := Z2.cell; clear Zc1; have x2 := x1.below T2; have R2 := below_then R1 T2)
  obtain ⟨wf, hwf, Sf⟩ := store5 Z2 (.int .u8 0) (.int .u32 0) (.int .u32 0) (.int .u16 0) (.int .u16 0)
  rw [hwf]
  have pf := Sf.blk.cell
  exact bodyPost_ret (v := .tuple #[(.agg #[.int .u8 (zT).proto, .int .u32 (zT).src, .int .u32 (zT).dst, .int .u16 (zT).sp, .int .u16 (zT).dp]), .int .i64 E]) (by simp [results, Tryz.results16, go_sem, pf, zT]) rfl ⟨⟨rfl, Sf.bel R2 (by omega)⟩⟩
theorem quo_2 (p : Pkt) (A1 : Option Addr) (n1 c1 : Nat) (A2 : Option Addr) (n2 c2 : Nat) (w : World) (k2 : Bs w A2 n2 c2 p.dat) (s : Msg)  (ht : ∀ W, Bs W A2 n2 c2 p.dat → Calls Tryz.prog 17 #[(.agg #[.int .u8 (p).tos, .int .u16 (p).id, .bool (p).keep, .int .u8 (p).ttl, .int .u8 (p).proto, .int .u32 (p).src, .int .u32 (p).dst, .slice A1 n1 c1, .slice A2 n2 c2])] W (MsPost W s 0))  (he : ∀ B b1 b2 W, Calls Tryz.prog 48 #[(.agg #[.int .u8 (s).ty, .int .u8 (s).code, .int .u32 (s).rest, .slice B b1 b2])] W fun e w' => e = .returned (.bool false) ∧ Below W.heap.size W w') :
    Calls Tryz.prog 16 #[(.agg #[.int .u8 (p).tos, .int .u16 (p).id, .bool (p).keep, .int .u8 (p).ttl, .int .u8 (p).proto, .int .u32 (p).src, .int .u32 (p).dst, .slice A1 n1 c1, .slice A2 n2 c2])] w (TtPost w zT 12) := by
  obtain ⟨k, hk, w1, hw1, P1, Z1, R1⟩ := nwI2 w #[.int .u8 (p).tos, .int .u16 (p).id, .bool (p).keep, .int .u8 (p).ttl, .int .u8 (p).proto, .int .u32 (p).src, .int .u32 (p).dst, .slice A1 n1 c1, .slice A2 n2 c2] 26 #[.int .u8 0, .int .u32 0, .int .u32 0, .int .u16 0, .int .u16 0] 29
  have Pc1 := P1.cell
  have Zc1 := Z1.cell
  have Pl1 := P1.lt
  have Zl1 := Z1.lt
  have x1 := (k2).below R1
  go_enter Tryz.func16, Tryz.ntmps16
  go_wp2_with (first
    | (go_at_call 17; ((with_reducible refine (ht w1 x1).mono ?_); rintro e u2 ⟨⟨DA, dn, dc, rfl, ho, hB2⟩⟩); (obtain ⟨w2, hw2, V2, kS2, hkS2, S2⟩ := nw1 u2 #[.int .u8 (s).ty, .int .u8 (s).code, .int .u32 (s).rest, .slice DA dn dc] 42); have Sc2 := S2.cell; have T2 := below_then hB2 V2; have y2 := (ho.bs).below V2; have P2 := P1.below T2; have Pc2 := P2.cell; clear Pc1; have Z2 := Z1.below T2; have Zc2 := Z2.cell; clear Zc1; have x2 := x1.below T2; have R2 := below_then R1 T2)
    | (go_at_call 48; ((with_reducible refine (he DA dn dc w2).mono ?_); rintro e w3 ⟨rfl, hB3⟩); have P3 := P2.below hB3; have Pc3 := P3.cell; clear Pc2; have Z3 := Z2.below hB3; have Zc3 := Z3.cell; clear Zc2; have S3 := S2.below hB3; have Sc3 := S3.cell; clear Sc2; have x3 := x2.below hB3; have y3 := y2.below hB3; have R3 := below_then R2 hB3))
  obtain ⟨wf, hwf, Sf⟩ := store5 Z3 (.int .u8 0) (.int .u32 0) (.int .u32 0) (.int .u16 0) (.int .u16 0)
  rw [hwf]
  have pf := Sf.blk.cell
  exact bodyPost_ret (v := .tuple #[(.agg #[.int .u8 (zT).proto, .int .u32 (zT).src, .int .u32 (zT).dst, .int .u16 (zT).sp, .int .u16 (zT).dp]), .int .i64 12]) (by simp [results, Tryz.results16, go_sem, pf, zT]) rfl ⟨⟨rfl, Sf.bel R3 (by omega)⟩⟩
theorem quo_3 (p : Pkt) (A1 : Option Addr) (n1 c1 : Nat) (A2 : Option Addr) (n2 c2 : Nat) (w : World) (k2 : Bs w A2 n2 c2 p.dat) (s : Msg)  (ht : ∀ W, Bs W A2 n2 c2 p.dat → Calls Tryz.prog 17 #[(.agg #[.int .u8 (p).tos, .int .u16 (p).id, .bool (p).keep, .int .u8 (p).ttl, .int .u8 (p).proto, .int .u32 (p).src, .int .u32 (p).dst, .slice A1 n1 c1, .slice A2 n2 c2])] W (MsPost W s 0))  (he : ∀ B b1 b2 W, Calls Tryz.prog 48 #[(.agg #[.int .u8 (s).ty, .int .u8 (s).code, .int .u32 (s).rest, .slice B b1 b2])] W fun e w' => e = .returned (.bool true) ∧ Below W.heap.size W w') (q : Pkt) (F : Int) (hq : ∀ B b1 b2 W, Bs W B b1 b2 s.dat → Calls Tryz.prog 18 #[.slice B b1 b2] W fun e w' => ∃ C1 e1 f1 C2 e2 f2, e = .returned (.tuple #[(.agg #[.int .u8 (q).tos, .int .u16 (q).id, .bool (q).keep, .int .u8 (q).ttl, .int .u8 (q).proto, .int .u32 (q).src, .int .u32 (q).dst, .slice C1 e1 f1, .slice C2 e2 f2]), .int .i64 F]) ∧ Bs w' C1 e1 f1 q.opt ∧ Bs w' C2 e2 f2 q.dat ∧ Below W.heap.size W w') (h0 : F ≠ 0) :
    Calls Tryz.prog 16 #[(.agg #[.int .u8 (p).tos, .int .u16 (p).id, .bool (p).keep, .int .u8 (p).ttl, .int .u8 (p).proto, .int .u32 (p).src, .int .u32 (p).dst, .slice A1 n1 c1, .slice A2 n2 c2])] w (TtPost w zT F) := by
  have h0b : (F != 0) = true := by simpa using h0
  clear h0
  obtain ⟨k, hk, w1, hw1, P1, Z1, R1⟩ := nwI2 w #[.int .u8 (p).tos, .int .u16 (p).id, .bool (p).keep, .int .u8 (p).ttl, .int .u8 (p).proto, .int .u32 (p).src, .int .u32 (p).dst, .slice A1 n1 c1, .slice A2 n2 c2] 26 #[.int .u8 0, .int .u32 0, .int .u32 0, .int .u16 0, .int .u16 0] 29
  have Pc1 := P1.cell
  have Zc1 := Z1.cell
  have Pl1 := P1.lt
  have Zl1 := Z1.lt
  have x1 := (k2).below R1
  go_enter Tryz.func16, Tryz.ntmps16
  go_wp2_with (first
    | (go_at_call 17; ((with_reducible refine (ht w1 x1).mono ?_); rintro e u2 ⟨⟨DA, dn, dc, rfl, ho, hB2⟩⟩); (obtain ⟨w2, hw2, V2, kS2, hkS2, S2⟩ := nw1 u2 #[.int .u8 (s).ty, .int .u8 (s).code, .int .u32 (s).rest, .slice DA dn dc] 42); have Sc2 := S2.cell; have T2 := below_then hB2 V2; have y2 := (ho.bs).below V2; have P2 := P1.below T2; have Pc2 := P2.cell; clear Pc1; have Z2 := Z1.below T2; have Zc2 := Z2.cell; clear Zc1; have x2 := x1.below T2; have R2 := below_then R1 T2)
    | (go_at_call 48; ((with_reducible refine (he DA dn dc w2).mono ?_); rintro e w3 ⟨rfl, hB3⟩); have P3 := P2.below hB3; have Pc3 := P3.cell; clear Pc2; have Z3 := Z2.below hB3; have Zc3 := Z3.cell; clear Zc2; have S3 := S2.below hB3; have Sc3 := S3.cell; clear Sc2; have x3 := x2.below hB3; have y3 := y2.below hB3; have R3 := below_then R2 hB3)
    | (go_at_call 18; ((with_reducible refine (hq DA dn dc w3 y3).mono ?_); rintro e u4 ⟨C1, e1, f1, C2, e2, f2, rfl, kq1, kq2, hB4⟩); (obtain ⟨w4, hw4, V4, kG4, hkG4, G4⟩ := nw1 u4 #[.int .u8 (q).tos, .int .u16 (q).id, .bool (q).keep, .int .u8 (q).ttl, .int .u8 (q).proto, .int .u32 (q).src, .int .u32 (q).dst, .slice C1 e1 f1, .slice C2 e2 f2] 26); have Gc4 := G4.cell; have T4 := below_then hB4 V4; have z4 := (kq2).below V4; have P4 := P3.below T4; have Pc4 := P4.cell; clear Pc3; have Z4 := Z3.below T4; have Zc4 := Z4.cell; clear Zc3; have S4 := S3.below T4; have Sc4 := S4.cell; clear Sc3; have x4 := x3.below T4; have y4 := y3.below T4; have R4 := below_then R3 T4))
  obtain ⟨wf, hwf, Sf⟩ := store5 Z4 (.int .u8 0) (.int .u32 0) (.int .u32 0) (.int .u16 0) (.int .u16 0)
  rw [hwf]
  have pf := Sf.blk.cell
  exact bodyPost_ret (v := .tuple #[(.agg #[.int .u8 (zT).proto, .int .u32 (zT).src, .int .u32 (zT).dst, .int .u16 (zT).sp, .int .u16 (zT).dp]), .int .i64 F]) (by simp [results, Tryz.results16, go_sem, pf, zT]) rfl ⟨⟨rfl, Sf.bel R4 (by omega)⟩⟩
theorem quo_tcp (p : Pkt) (A1 : Option Addr) (n1 c1 : Nat) (A2 : Option Addr) (n2 c2 : Nat) (w : World) (k2 : Bs w A2 n2 c2 p.dat) (s : Msg)  (ht : ∀ W, Bs W A2 n2 c2 p.dat → Calls Tryz.prog 17 #[(.agg #[.int .u8 (p).tos, .int .u16 (p).id, .bool (p).keep, .int .u8 (p).ttl, .int .u8 (p).proto, .int .u32 (p).src, .int .u32 (p).dst, .slice A1 n1 c1, .slice A2 n2 c2])] W (MsPost W s 0))  (he : ∀ B b1 b2 W, Calls Tryz.prog 48 #[(.agg #[.int .u8 (s).ty, .int .u8 (s).code, .int .u32 (s).rest, .slice B b1 b2])] W fun e w' => e = .returned (.bool true) ∧ Below W.heap.size W w') (q : Pkt)  (hq : ∀ B b1 b2 W, Bs W B b1 b2 s.dat → Calls Tryz.prog 18 #[.slice B b1 b2] W fun e w' => ∃ C1 e1 f1 C2 e2 f2, e = .returned (.tuple #[(.agg #[.int .u8 (q).tos, .int .u16 (q).id, .bool (q).keep, .int .u8 (q).ttl, .int .u8 (q).proto, .int .u32 (q).src, .int .u32 (q).dst, .slice C1 e1 f1, .slice C2 e2 f2]), .int .i64 0]) ∧ Bs w' C1 e1 f1 q.opt ∧ Bs w' C2 e2 f2 q.dat ∧ Below W.heap.size W w') (hkn : ∀ (W : World) (r : Nat), W.heap[r]? = some (.map (kn 4) 4) → (Instr.lookup 87 (.map (some r)) (.int .u8 q.proto) true).run Tryz.prog W = .ok (.tuple #[.agg #[.func (.func 81) #[] #[], .func (.func 80) #[] #[]], .bool true]) W) (a0 b0 F : Int)
    (hw : ∀ W C1 e1 f1 C2 e2 f2, Bs W C2 e2 f2 q.dat → Calls Tryz.prog 80 #[(.agg #[.int .u8 (q).tos, .int .u16 (q).id, .bool (q).keep, .int .u8 (q).ttl, .int .u8 (q).proto, .int .u32 (q).src, .int .u32 (q).dst, .slice C1 e1 f1, .slice C2 e2 f2])] W (WyPost W a0 b0 F)) :
    Calls Tryz.prog 16 #[(.agg #[.int .u8 (p).tos, .int .u16 (p).id, .bool (p).keep, .int .u8 (p).ttl, .int .u8 (p).proto, .int .u32 (p).src, .int .u32 (p).dst, .slice A1 n1 c1, .slice A2 n2 c2])] w (TtPost w (tuP q a0 b0 F) F) := by
  have htu : ∀ a b, (F = 0 → a = a0 ∧ b = b0) → ∀ C1 e1 f1 C2 e2 f2 W, Calls Tryz.prog 50 #[(.agg #[.int .u8 (q).tos, .int .u16 (q).id, .bool (q).keep, .int .u8 (q).ttl, .int .u8 (q).proto, .int .u32 (q).src, .int .u32 (q).dst, .slice C1 e1 f1, .slice C2 e2 f2]), .agg #[.int .u16 a, .int .u16 b], .int .i64 F] W (TtPost W (tuP q a0 b0 F) F) := fun a b hab C1 e1 f1 C2 e2 f2 W => by
    have h := tupled_any q C1 e1 f1 C2 e2 f2 a b F W
    have e : tuP q a b F = tuP q a0 b0 F := by
      unfold tuP
      by_cases h0 : F = 0
      · obtain ⟨rfl, rfl⟩ := hab h0; rfl
      · rw [if_pos h0, if_pos h0]
    rw [e] at h
    exact h
  obtain ⟨T, hT'⟩ : ∃ T, tuP q a0 b0 F = T := ⟨_, rfl⟩
  rw [hT'] at htu
  rw [hT']
  clear hT'
  have hrun : ∀ (W : World) (r : Nat), W.heap[r]? = some (.map (kn 4) 4) → (Instr.lookup 87 (.map (some r)) (.int .u8 q.proto) true).run Tryz.prog W = .ok (.tuple #[.agg #[.func (.func 81) #[] #[], .func (.func 80) #[] #[]], .bool true]) W := hkn
  clear hkn
  obtain ⟨k, hk, w1, hw1, P1, Z1, R1⟩ := nwI2 w #[.int .u8 (p).tos, .int .u16 (p).id, .bool (p).keep, .int .u8 (p).ttl, .int .u8 (p).proto, .int .u32 (p).src, .int .u32 (p).dst, .slice A1 n1 c1, .slice A2 n2 c2] 26 #[.int .u8 0, .int .u32 0, .int .u32 0, .int .u16 0, .int .u16 0] 29
  have Pc1 := P1.cell
  have Zc1 := Z1.cell
  have Pl1 := P1.lt
  have Zl1 := Z1.lt
  have x1 := (k2).below R1
  go_enter Tryz.func16, Tryz.ntmps16
  go_wp2_with (first
    | (go_at_call 17; ((with_reducible refine (ht w1 x1).mono ?_); rintro e u2 ⟨⟨DA, dn, dc, rfl, ho, hB2⟩⟩); (obtain ⟨w2, hw2, V2, kS2, hkS2, S2⟩ := nw1 u2 #[.int .u8 (s).ty, .int .u8 (s).code, .int .u32 (s).rest, .slice DA dn dc] 42); have Sc2 := S2.cell; have T2 := below_then hB2 V2; have y2 := (ho.bs).below V2; have P2 := P1.below T2; have Pc2 := P2.cell; clear Pc1; have Z2 := Z1.below T2; have Zc2 := Z2.cell; clear Zc1; have x2 := x1.below T2; have R2 := below_then R1 T2)
    | (go_at_call 48; ((with_reducible refine (he DA dn dc w2).mono ?_); rintro e w3 ⟨rfl, hB3⟩); have P3 := P2.below hB3; have Pc3 := P3.cell; clear Pc2; have Z3 := Z2.below hB3; have Zc3 := Z3.cell; clear Zc2; have S3 := S2.below hB3; have Sc3 := S3.cell; clear Sc2; have x3 := x2.below hB3; have y3 := y2.below hB3; have R3 := below_then R2 hB3)
    | (go_at_call 18; ((with_reducible refine (hq DA dn dc w3 y3).mono ?_); rintro e u4 ⟨C1, e1, f1, C2, e2, f2, rfl, kq1, kq2, hB4⟩); (obtain ⟨w4, hw4, V4, kG4, hkG4, G4⟩ := nw1 u4 #[.int .u8 (q).tos, .int .u16 (q).id, .bool (q).keep, .int .u8 (q).ttl, .int .u8 (q).proto, .int .u32 (q).src, .int .u32 (q).dst, .slice C1 e1 f1, .slice C2 e2 f2] 26); have Gc4 := G4.cell; have T4 := below_then hB4 V4; have z4 := (kq2).below V4; have P4 := P3.below T4; have Pc4 := P4.cell; clear Pc3; have Z4 := Z3.below T4; have Zc4 := Z4.cell; clear Zc3; have S4 := S3.below T4; have Sc4 := S4.cell; clear Sc3; have x4 := x3.below T4; have y4 := y3.below T4; have R4 := below_then R3 T4))
  refine region_z 8 6 (by kernel_rfl) (by kernel_rfl) (fun _ _ _ _ _ h => h) ?_; (iterate 8 (first | (apply ObsK.skip (by rfl)) | (apply ObsK.v (by rfl); (intro wo hT; (repeat (first | (intro v hv; ((obtain ⟨r, rfl, hm⟩ := hv; have hlk := hrun _ r hm))) | (intro _ _ k; try have hcv := cv k))); (have gc := (G4.below hT).cell; have hsz : w4.heap.size ≤ wo.heap.size := hT.size); refine Goes.mk ?_; go_simp; first | exact goes_v | exact goes_b (by assumption) | exact goes_new hsz | (refine goes_enter ?_; first | (go_at_call 49; ((with_reducible refine (known_any wo).mono ?_); rintro e w9 ⟨rfl, rfl⟩); exact ret_isKn)))) | (apply ObsK.b (by rfl); (intro wo hT; (repeat (first | (intro v hv; ((obtain ⟨r, rfl, hm⟩ := hv; have hlk := hrun _ r hm))) | (intro _ _ k; try have hcv := cv k))); (have gc := (G4.below hT).cell; have hsz : w4.heap.size ≤ wo.heap.size := hT.size); refine Goes.mk ?_; go_simp; first | exact goes_v | exact goes_b (by assumption) | exact goes_new hsz | (refine goes_enter ?_; first | (go_at_call 49; ((with_reducible refine (known_any wo).mono ?_); rintro e w9 ⟨rfl, rfl⟩); exact ret_isKn)))) | (apply ObsK.p (q := isKn) (by rfl) st_isKn; (intro wo hT; (repeat (first | (intro v hv; ((obtain ⟨r, rfl, hm⟩ := hv; have hlk := hrun _ r hm))) | (intro _ _ k; try have hcv := cv k))); (have gc := (G4.below hT).cell; have hsz : w4.heap.size ≤ wo.heap.size := hT.size); refine Goes.mk ?_; go_simp; first | exact goes_v | exact goes_b (by assumption) | exact goes_new hsz | (refine goes_enter ?_; first | (go_at_call 49; ((with_reducible refine (known_any wo).mono ?_); rintro e w9 ⟨rfl, rfl⟩); exact ret_isKn)))) | (apply ObsK.p (q := isNew w4.heap.size #[.nilFunc, .nilFunc] 85) (by rfl) st_isNew; (intro wo hT; (repeat (first | (intro v hv; ((obtain ⟨r, rfl, hm⟩ := hv; have hlk := hrun _ r hm))) | (intro _ _ k; try have hcv := cv k))); (have gc := (G4.below hT).cell; have hsz : w4.heap.size ≤ wo.heap.size := hT.size); refine Goes.mk ?_; go_simp; first | exact goes_v | exact goes_b (by assumption) | exact goes_new hsz | (refine goes_enter ?_; first | (go_at_call 49; ((with_reducible refine (known_any wo).mono ?_); rintro e w9 ⟨rfl, rfl⟩); exact ret_isKn)))))); refine ObsK.nil ?_; intro wz hBz; simp only [finOn, List.drop_succ_cons, List.drop_zero, List.drop_nil]
  rintro _ ⟨gS, rfl, hS, S5⟩ _ ⟨m, rfl, -⟩
  go_simp
  obtain ⟨wq, hwq, Sq⟩ := store2 S5 (.func (.func 81) #[] #[]) (.func (.func 80) #[] #[])
  have hBq := Sq.bel hBz hS
  have cS5 := S5.cell
  have hsf : ∀ (W : World) (a : Addr) (fn : Fn) (m : Mode), (store a (.func fn #[] #[]) m).run Tryz.prog W = stored Tryz.prog W a (.func fn #[] #[]) m := fun W a fn m => run_store _ W a _ m rfl
  have V5 := Sq.blk
  have Vc5 := V5.cell
  have P5 := P4.below hBq
  have Pc5 := P5.cell
  clear Pc4
  have Z5 := Z4.below hBq
  have Zc5 := Z5.cell
  clear Zc4
  have S5 := S4.below hBq
  have Sc5 := S5.cell
  clear Sc4
  have G5 := G4.below hBq
  have Gc5 := G5.cell
  clear Gc4
  have x5 := x4.below hBq
  have y5 := y4.below hBq
  have z5 := z4.below hBq
  have R5 := below_then R4 hBq
  go_wp2_with (first
    | (go_at_call 80; ((with_reducible refine (hw wq C1 e1 f1 C2 e2 f2 z5).mono ?_); rintro e u6 ⟨⟨pa, pb, rfl, hab, hB6⟩⟩); (obtain ⟨w6, hw6, V6, kQ6, hkQ6, Q6⟩ := nw1 u6 #[.int .u16 pa, .int .u16 pb] 90); have Qc6 := Q6.cell; have T6 := below_then hB6 V6; have P6 := P5.below T6; have Pc6 := P6.cell; clear Pc5; have Z6 := Z5.below T6; have Zc6 := Z6.cell; clear Zc5; have S6 := S5.below T6; have Sc6 := S6.cell; clear Sc5; have G6 := G5.below T6; have Gc6 := G6.cell; clear Gc5; have V6 := V5.below T6; have Vc6 := V6.cell; clear Vc5; have x6 := x5.below T6; have y6 := y5.below T6; have z6 := z5.below T6; have R6 := below_then R5 T6)
    | (go_at_call 50; ((with_reducible refine (htu pa pb hab C1 e1 f1 C2 e2 f2 w6).mono ?_); rintro e w7 ⟨⟨rfl, hB7⟩⟩); have P7 := P6.below hB7; have Pc7 := P7.cell; clear Pc6; have Z7 := Z6.below hB7; have Zc7 := Z7.cell; clear Zc6; have S7 := S6.below hB7; have Sc7 := S7.cell; clear Sc6; have G7 := G6.below hB7; have Gc7 := G7.cell; clear Gc6; have V7 := V6.below hB7; have Vc7 := V7.cell; clear Vc6; have Q7 := Q6.below hB7; have Qc7 := Q7.cell; clear Qc6; have x7 := x6.below hB7; have y7 := y6.below hB7; have z7 := z6.below hB7; have R7 := below_then R6 hB7))
  obtain ⟨wf, hwf, Sf⟩ := store5 Z7 (.int .u8 T.proto) (.int .u32 T.src) (.int .u32 T.dst) (.int .u16 T.sp) (.int .u16 T.dp)
  rw [hwf]
  have pf := Sf.blk.cell
  exact bodyPost_ret (v := .tuple #[(.agg #[.int .u8 (T).proto, .int .u32 (T).src, .int .u32 (T).dst, .int .u16 (T).sp, .int .u16 (T).dp]), .int .i64 F]) (by simp [results, Tryz.results16, go_sem, pf, zT]) rfl ⟨⟨rfl, Sf.bel R7 (by omega)⟩⟩
theorem quo_udp (p : Pkt) (A1 : Option Addr) (n1 c1 : Nat) (A2 : Option Addr) (n2 c2 : Nat) (w : World) (k2 : Bs w A2 n2 c2 p.dat) (s : Msg)  (ht : ∀ W, Bs W A2 n2 c2 p.dat → Calls Tryz.prog 17 #[(.agg #[.int .u8 (p).tos, .int .u16 (p).id, .bool (p).keep, .int .u8 (p).ttl, .int .u8 (p).proto, .int .u32 (p).src, .int .u32 (p).dst, .slice A1 n1 c1, .slice A2 n2 c2])] W (MsPost W s 0))  (he : ∀ B b1 b2 W, Calls Tryz.prog 48 #[(.agg #[.int .u8 (s).ty, .int .u8 (s).code, .int .u32 (s).rest, .slice B b1 b2])] W fun e w' => e = .returned (.bool true) ∧ Below W.heap.size W w') (q : Pkt)  (hq : ∀ B b1 b2 W, Bs W B b1 b2 s.dat → Calls Tryz.prog 18 #[.slice B b1 b2] W fun e w' => ∃ C1 e1 f1 C2 e2 f2, e = .returned (.tuple #[(.agg #[.int .u8 (q).tos, .int .u16 (q).id, .bool (q).keep, .int .u8 (q).ttl, .int .u8 (q).proto, .int .u32 (q).src, .int .u32 (q).dst, .slice C1 e1 f1, .slice C2 e2 f2]), .int .i64 0]) ∧ Bs w' C1 e1 f1 q.opt ∧ Bs w' C2 e2 f2 q.dat ∧ Below W.heap.size W w') (hkn : ∀ (W : World) (r : Nat), W.heap[r]? = some (.map (kn 4) 4) → (Instr.lookup 87 (.map (some r)) (.int .u8 q.proto) true).run Tryz.prog W = .ok (.tuple #[.agg #[.func (.func 82) #[] #[], .func (.func 80) #[] #[]], .bool true]) W) (a0 b0 F : Int)
    (hw : ∀ W C1 e1 f1 C2 e2 f2, Bs W C2 e2 f2 q.dat → Calls Tryz.prog 80 #[(.agg #[.int .u8 (q).tos, .int .u16 (q).id, .bool (q).keep, .int .u8 (q).ttl, .int .u8 (q).proto, .int .u32 (q).src, .int .u32 (q).dst, .slice C1 e1 f1, .slice C2 e2 f2])] W (WyPost W a0 b0 F)) :
    Calls Tryz.prog 16 #[(.agg #[.int .u8 (p).tos, .int .u16 (p).id, .bool (p).keep, .int .u8 (p).ttl, .int .u8 (p).proto, .int .u32 (p).src, .int .u32 (p).dst, .slice A1 n1 c1, .slice A2 n2 c2])] w (TtPost w (tuP q a0 b0 F) F) := by
  have htu : ∀ a b, (F = 0 → a = a0 ∧ b = b0) → ∀ C1 e1 f1 C2 e2 f2 W, Calls Tryz.prog 50 #[(.agg #[.int .u8 (q).tos, .int .u16 (q).id, .bool (q).keep, .int .u8 (q).ttl, .int .u8 (q).proto, .int .u32 (q).src, .int .u32 (q).dst, .slice C1 e1 f1, .slice C2 e2 f2]), .agg #[.int .u16 a, .int .u16 b], .int .i64 F] W (TtPost W (tuP q a0 b0 F) F) := fun a b hab C1 e1 f1 C2 e2 f2 W => by
    have h := tupled_any q C1 e1 f1 C2 e2 f2 a b F W
    have e : tuP q a b F = tuP q a0 b0 F := by
      unfold tuP
      by_cases h0 : F = 0
      · obtain ⟨rfl, rfl⟩ := hab h0; rfl
      · rw [if_pos h0, if_pos h0]
    rw [e] at h
    exact h
  obtain ⟨T, hT'⟩ : ∃ T, tuP q a0 b0 F = T := ⟨_, rfl⟩
  rw [hT'] at htu
  rw [hT']
  clear hT'
  have hrun : ∀ (W : World) (r : Nat), W.heap[r]? = some (.map (kn 4) 4) → (Instr.lookup 87 (.map (some r)) (.int .u8 q.proto) true).run Tryz.prog W = .ok (.tuple #[.agg #[.func (.func 82) #[] #[], .func (.func 80) #[] #[]], .bool true]) W := hkn
  clear hkn
  obtain ⟨k, hk, w1, hw1, P1, Z1, R1⟩ := nwI2 w #[.int .u8 (p).tos, .int .u16 (p).id, .bool (p).keep, .int .u8 (p).ttl, .int .u8 (p).proto, .int .u32 (p).src, .int .u32 (p).dst, .slice A1 n1 c1, .slice A2 n2 c2] 26 #[.int .u8 0, .int .u32 0, .int .u32 0, .int .u16 0, .int .u16 0] 29
  have Pc1 := P1.cell
  have Zc1 := Z1.cell
  have Pl1 := P1.lt
  have Zl1 := Z1.lt
  have x1 := (k2).below R1
  go_enter Tryz.func16, Tryz.ntmps16
  go_wp2_with (first
    | (go_at_call 17; ((with_reducible refine (ht w1 x1).mono ?_); rintro e u2 ⟨⟨DA, dn, dc, rfl, ho, hB2⟩⟩); (obtain ⟨w2, hw2, V2, kS2, hkS2, S2⟩ := nw1 u2 #[.int .u8 (s).ty, .int .u8 (s).code, .int .u32 (s).rest, .slice DA dn dc] 42); have Sc2 := S2.cell; have T2 := below_then hB2 V2; have y2 := (ho.bs).below V2; have P2 := P1.below T2; have Pc2 := P2.cell; clear Pc1; have Z2 := Z1.below T2; have Zc2 := Z2.cell; clear Zc1; have x2 := x1.below T2; have R2 := below_then R1 T2)
    | (go_at_call 48; ((with_reducible refine (he DA dn dc w2).mono ?_); rintro e w3 ⟨rfl, hB3⟩); have P3 := P2.below hB3; have Pc3 := P3.cell; clear Pc2; have Z3 := Z2.below hB3; have Zc3 := Z3.cell; clear Zc2; have S3 := S2.below hB3; have Sc3 := S3.cell; clear Sc2; have x3 := x2.below hB3; have y3 := y2.below hB3; have R3 := below_then R2 hB3)
    | (go_at_call 18; ((with_reducible refine (hq DA dn dc w3 y3).mono ?_); rintro e u4 ⟨C1, e1, f1, C2, e2, f2, rfl, kq1, kq2, hB4⟩); (obtain ⟨w4, hw4, V4, kG4, hkG4, G4⟩ := nw1 u4 #[.int .u8 (q).tos, .int .u16 (q).id, .bool (q).keep, .int .u8 (q).ttl, .int .u8 (q).proto, .int .u32 (q).src, .int .u32 (q).dst, .slice C1 e1 f1, .slice C2 e2 f2] 26); have Gc4 := G4.cell; have T4 := below_then hB4 V4; have z4 := (kq2).below V4; have P4 := P3.below T4; have Pc4 := P4.cell; clear Pc3; have Z4 := Z3.below T4; have Zc4 := Z4.cell; clear Zc3; have S4 := S3.below T4; have Sc4 := S4.cell; clear Sc3; have x4 := x3.below T4; have y4 := y3.below T4; have R4 := below_then R3 T4))
  refine region_z 8 6 (by kernel_rfl) (by kernel_rfl) (fun _ _ _ _ _ h => h) ?_; (iterate 8 (first | (apply ObsK.skip (by rfl)) | (apply ObsK.v (by rfl); (intro wo hT; (repeat (first | (intro v hv; ((obtain ⟨r, rfl, hm⟩ := hv; have hlk := hrun _ r hm))) | (intro _ _ k; try have hcv := cv k))); (have gc := (G4.below hT).cell; have hsz : w4.heap.size ≤ wo.heap.size := hT.size); refine Goes.mk ?_; go_simp; first | exact goes_v | exact goes_b (by assumption) | exact goes_new hsz | (refine goes_enter ?_; first | (go_at_call 49; ((with_reducible refine (known_any wo).mono ?_); rintro e w9 ⟨rfl, rfl⟩); exact ret_isKn)))) | (apply ObsK.b (by rfl); (intro wo hT; (repeat (first | (intro v hv; ((obtain ⟨r, rfl, hm⟩ := hv; have hlk := hrun _ r hm))) | (intro _ _ k; try have hcv := cv k))); (have gc := (G4.below hT).cell; have hsz : w4.heap.size ≤ wo.heap.size := hT.size); refine Goes.mk ?_; go_simp; first | exact goes_v | exact goes_b (by assumption) | exact goes_new hsz | (refine goes_enter ?_; first | (go_at_call 49; ((with_reducible refine (known_any wo).mono ?_); rintro e w9 ⟨rfl, rfl⟩); exact ret_isKn)))) | (apply ObsK.p (q := isKn) (by rfl) st_isKn; (intro wo hT; (repeat (first | (intro v hv; ((obtain ⟨r, rfl, hm⟩ := hv; have hlk := hrun _ r hm))) | (intro _ _ k; try have hcv := cv k))); (have gc := (G4.below hT).cell; have hsz : w4.heap.size ≤ wo.heap.size := hT.size); refine Goes.mk ?_; go_simp; first | exact goes_v | exact goes_b (by assumption) | exact goes_new hsz | (refine goes_enter ?_; first | (go_at_call 49; ((with_reducible refine (known_any wo).mono ?_); rintro e w9 ⟨rfl, rfl⟩); exact ret_isKn)))) | (apply ObsK.p (q := isNew w4.heap.size #[.nilFunc, .nilFunc] 85) (by rfl) st_isNew; (intro wo hT; (repeat (first | (intro v hv; ((obtain ⟨r, rfl, hm⟩ := hv; have hlk := hrun _ r hm))) | (intro _ _ k; try have hcv := cv k))); (have gc := (G4.below hT).cell; have hsz : w4.heap.size ≤ wo.heap.size := hT.size); refine Goes.mk ?_; go_simp; first | exact goes_v | exact goes_b (by assumption) | exact goes_new hsz | (refine goes_enter ?_; first | (go_at_call 49; ((with_reducible refine (known_any wo).mono ?_); rintro e w9 ⟨rfl, rfl⟩); exact ret_isKn)))))); refine ObsK.nil ?_; intro wz hBz; simp only [finOn, List.drop_succ_cons, List.drop_zero, List.drop_nil]
  rintro _ ⟨gS, rfl, hS, S5⟩ _ ⟨m, rfl, -⟩
  go_simp
  obtain ⟨wq, hwq, Sq⟩ := store2 S5 (.func (.func 82) #[] #[]) (.func (.func 80) #[] #[])
  have hBq := Sq.bel hBz hS
  have cS5 := S5.cell
  have hsf : ∀ (W : World) (a : Addr) (fn : Fn) (m : Mode), (store a (.func fn #[] #[]) m).run Tryz.prog W = stored Tryz.prog W a (.func fn #[] #[]) m := fun W a fn m => run_store _ W a _ m rfl
  have V5 := Sq.blk
  have Vc5 := V5.cell
  have P5 := P4.below hBq
  have Pc5 := P5.cell
  clear Pc4
  have Z5 := Z4.below hBq
  have Zc5 := Z5.cell
  clear Zc4
  have S5 := S4.below hBq
  have Sc5 := S5.cell
  clear Sc4
  have G5 := G4.below hBq
  have Gc5 := G5.cell
  clear Gc4
  have x5 := x4.below hBq
  have y5 := y4.below hBq
  have z5 := z4.below hBq
  have R5 := below_then R4 hBq
  go_wp2_with (first
    | (go_at_call 80; ((with_reducible refine (hw wq C1 e1 f1 C2 e2 f2 z5).mono ?_); rintro e u6 ⟨⟨pa, pb, rfl, hab, hB6⟩⟩); (obtain ⟨w6, hw6, V6, kQ6, hkQ6, Q6⟩ := nw1 u6 #[.int .u16 pa, .int .u16 pb] 90); have Qc6 := Q6.cell; have T6 := below_then hB6 V6; have P6 := P5.below T6; have Pc6 := P6.cell; clear Pc5; have Z6 := Z5.below T6; have Zc6 := Z6.cell; clear Zc5; have S6 := S5.below T6; have Sc6 := S6.cell; clear Sc5; have G6 := G5.below T6; have Gc6 := G6.cell; clear Gc5; have V6 := V5.below T6; have Vc6 := V6.cell; clear Vc5; have x6 := x5.below T6; have y6 := y5.below T6; have z6 := z5.below T6; have R6 := below_then R5 T6)
    | (go_at_call 50; ((with_reducible refine (htu pa pb hab C1 e1 f1 C2 e2 f2 w6).mono ?_); rintro e w7 ⟨⟨rfl, hB7⟩⟩); have P7 := P6.below hB7; have Pc7 := P7.cell; clear Pc6; have Z7 := Z6.below hB7; have Zc7 := Z7.cell; clear Zc6; have S7 := S6.below hB7; have Sc7 := S7.cell; clear Sc6; have G7 := G6.below hB7; have Gc7 := G7.cell; clear Gc6; have V7 := V6.below hB7; have Vc7 := V7.cell; clear Vc6; have Q7 := Q6.below hB7; have Qc7 := Q7.cell; clear Qc6; have x7 := x6.below hB7; have y7 := y6.below hB7; have z7 := z6.below hB7; have R7 := below_then R6 hB7))
  obtain ⟨wf, hwf, Sf⟩ := store5 Z7 (.int .u8 T.proto) (.int .u32 T.src) (.int .u32 T.dst) (.int .u16 T.sp) (.int .u16 T.dp)
  rw [hwf]
  have pf := Sf.blk.cell
  exact bodyPost_ret (v := .tuple #[(.agg #[.int .u8 (T).proto, .int .u32 (T).src, .int .u32 (T).dst, .int .u16 (T).sp, .int .u16 (T).dp]), .int .i64 F]) (by simp [results, Tryz.results16, go_sem, pf, zT]) rfl ⟨⟨rfl, Sf.bel R7 (by omega)⟩⟩
theorem quo_icmp (p : Pkt) (A1 : Option Addr) (n1 c1 : Nat) (A2 : Option Addr) (n2 c2 : Nat) (w : World) (k2 : Bs w A2 n2 c2 p.dat) (s : Msg)  (ht : ∀ W, Bs W A2 n2 c2 p.dat → Calls Tryz.prog 17 #[(.agg #[.int .u8 (p).tos, .int .u16 (p).id, .bool (p).keep, .int .u8 (p).ttl, .int .u8 (p).proto, .int .u32 (p).src, .int .u32 (p).dst, .slice A1 n1 c1, .slice A2 n2 c2])] W (MsPost W s 0))  (he : ∀ B b1 b2 W, Calls Tryz.prog 48 #[(.agg #[.int .u8 (s).ty, .int .u8 (s).code, .int .u32 (s).rest, .slice B b1 b2])] W fun e w' => e = .returned (.bool true) ∧ Below W.heap.size W w') (q : Pkt)  (hq : ∀ B b1 b2 W, Bs W B b1 b2 s.dat → Calls Tryz.prog 18 #[.slice B b1 b2] W fun e w' => ∃ C1 e1 f1 C2 e2 f2, e = .returned (.tuple #[(.agg #[.int .u8 (q).tos, .int .u16 (q).id, .bool (q).keep, .int .u8 (q).ttl, .int .u8 (q).proto, .int .u32 (q).src, .int .u32 (q).dst, .slice C1 e1 f1, .slice C2 e2 f2]), .int .i64 0]) ∧ Bs w' C1 e1 f1 q.opt ∧ Bs w' C2 e2 f2 q.dat ∧ Below W.heap.size W w') (hkn : ∀ (W : World) (r : Nat), W.heap[r]? = some (.map (kn 4) 4) → (Instr.lookup 87 (.map (some r)) (.int .u8 q.proto) true).run Tryz.prog W = .ok (.tuple #[.agg #[.func (.func 83) #[] #[], .func (.func 84) #[] #[]], .bool true]) W) (a0 b0 F : Int)
    (hw : ∀ W C1 e1 f1 C2 e2 f2, Bs W C2 e2 f2 q.dat → Calls Tryz.prog 84 #[(.agg #[.int .u8 (q).tos, .int .u16 (q).id, .bool (q).keep, .int .u8 (q).ttl, .int .u8 (q).proto, .int .u32 (q).src, .int .u32 (q).dst, .slice C1 e1 f1, .slice C2 e2 f2])] W (WyPost W a0 b0 F)) :
    Calls Tryz.prog 16 #[(.agg #[.int .u8 (p).tos, .int .u16 (p).id, .bool (p).keep, .int .u8 (p).ttl, .int .u8 (p).proto, .int .u32 (p).src, .int .u32 (p).dst, .slice A1 n1 c1, .slice A2 n2 c2])] w (TtPost w (tuP q a0 b0 F) F) := by
  have htu : ∀ a b, (F = 0 → a = a0 ∧ b = b0) → ∀ C1 e1 f1 C2 e2 f2 W, Calls Tryz.prog 50 #[(.agg #[.int .u8 (q).tos, .int .u16 (q).id, .bool (q).keep, .int .u8 (q).ttl, .int .u8 (q).proto, .int .u32 (q).src, .int .u32 (q).dst, .slice C1 e1 f1, .slice C2 e2 f2]), .agg #[.int .u16 a, .int .u16 b], .int .i64 F] W (TtPost W (tuP q a0 b0 F) F) := fun a b hab C1 e1 f1 C2 e2 f2 W => by
    have h := tupled_any q C1 e1 f1 C2 e2 f2 a b F W
    have e : tuP q a b F = tuP q a0 b0 F := by
      unfold tuP
      by_cases h0 : F = 0
      · obtain ⟨rfl, rfl⟩ := hab h0; rfl
      · rw [if_pos h0, if_pos h0]
    rw [e] at h
    exact h
  obtain ⟨T, hT'⟩ : ∃ T, tuP q a0 b0 F = T := ⟨_, rfl⟩
  rw [hT'] at htu
  rw [hT']
  clear hT'
  have hrun : ∀ (W : World) (r : Nat), W.heap[r]? = some (.map (kn 4) 4) → (Instr.lookup 87 (.map (some r)) (.int .u8 q.proto) true).run Tryz.prog W = .ok (.tuple #[.agg #[.func (.func 83) #[] #[], .func (.func 84) #[] #[]], .bool true]) W := hkn
  clear hkn
  obtain ⟨k, hk, w1, hw1, P1, Z1, R1⟩ := nwI2 w #[.int .u8 (p).tos, .int .u16 (p).id, .bool (p).keep, .int .u8 (p).ttl, .int .u8 (p).proto, .int .u32 (p).src, .int .u32 (p).dst, .slice A1 n1 c1, .slice A2 n2 c2] 26 #[.int .u8 0, .int .u32 0, .int .u32 0, .int .u16 0, .int .u16 0] 29
  have Pc1 := P1.cell
  have Zc1 := Z1.cell
  have Pl1 := P1.lt
  have Zl1 := Z1.lt
  have x1 := (k2).below R1
  go_enter Tryz.func16, Tryz.ntmps16
  go_wp2_with (first
    | (go_at_call 17; ((with_reducible refine (ht w1 x1).mono ?_); rintro e u2 ⟨⟨DA, dn, dc, rfl, ho, hB2⟩⟩); (obtain ⟨w2, hw2, V2, kS2, hkS2, S2⟩ := nw1 u2 #[.int .u8 (s).ty, .int .u8 (s).code, .int .u32 (s).rest, .slice DA dn dc] 42); have Sc2 := S2.cell; have T2 := below_then hB2 V2; have y2 := (ho.bs).below V2; have P2 := P1.below T2; have Pc2 := P2.cell; clear Pc1; have Z2 := Z1.below T2; have Zc2 := Z2.cell; clear Zc1; have x2 := x1.below T2; have R2 := below_then R1 T2)
    | (go_at_call 48; ((with_reducible refine (he DA dn dc w2).mono ?_); rintro e w3 ⟨rfl, hB3⟩); have P3 := P2.below hB3; have Pc3 := P3.cell; clear Pc2; have Z3 := Z2.below hB3; have Zc3 := Z3.cell; clear Zc2; have S3 := S2.below hB3; have Sc3 := S3.cell; clear Sc2; have x3 := x2.below hB3; have y3 := y2.below hB3; have R3 := below_then R2 hB3)
    | (go_at_call 18; ((with_reducible refine (hq DA dn dc w3 y3).mono ?_); rintro e u4 ⟨C1, e1, f1, C2, e2, f2, rfl, kq1, kq2, hB4⟩); (obtain ⟨w4, hw4, V4, kG4, hkG4, G4⟩ := nw1 u4 #[.int .u8 (q).tos, .int .u16 (q).id, .bool (q).keep, .int .u8 (q).ttl, .int .u8 (q).proto, .int .u32 (q).src, .int .u32 (q).dst, .slice C1 e1 f1, .slice C2 e2 f2] 26); have Gc4 := G4.cell; have T4 := below_then hB4 V4; have z4 := (kq2).below V4; have P4 := P3.below T4; have Pc4 := P4.cell; clear Pc3; have Z4 := Z3.below T4; have Zc4 := Z4.cell; clear Zc3; have S4 := S3.below T4; have Sc4 := S4.cell; clear Sc3; have x4 := x3.below T4; have y4 := y3.below T4; have R4 := below_then R3 T4))
  refine region_z 8 6 (by kernel_rfl) (by kernel_rfl) (fun _ _ _ _ _ h => h) ?_; (iterate 8 (first | (apply ObsK.skip (by rfl)) | (apply ObsK.v (by rfl); (intro wo hT; (repeat (first | (intro v hv; ((obtain ⟨r, rfl, hm⟩ := hv; have hlk := hrun _ r hm))) | (intro _ _ k; try have hcv := cv k))); (have gc := (G4.below hT).cell; have hsz : w4.heap.size ≤ wo.heap.size := hT.size); refine Goes.mk ?_; go_simp; first | exact goes_v | exact goes_b (by assumption) | exact goes_new hsz | (refine goes_enter ?_; first | (go_at_call 49; ((with_reducible refine (known_any wo).mono ?_); rintro e w9 ⟨rfl, rfl⟩); exact ret_isKn)))) | (apply ObsK.b (by rfl); (intro wo hT; (repeat (first | (intro v hv; ((obtain ⟨r, rfl, hm⟩ := hv; have hlk := hrun _ r hm))) | (intro _ _ k; try have hcv := cv k))); (have gc := (G4.below hT).cell; have hsz : w4.heap.size ≤ wo.heap.size := hT.size); refine Goes.mk ?_; go_simp; first | exact goes_v | exact goes_b (by assumption) | exact goes_new hsz | (refine goes_enter ?_; first | (go_at_call 49; ((with_reducible refine (known_any wo).mono ?_); rintro e w9 ⟨rfl, rfl⟩); exact ret_isKn)))) | (apply ObsK.p (q := isKn) (by rfl) st_isKn; (intro wo hT; (repeat (first | (intro v hv; ((obtain ⟨r, rfl, hm⟩ := hv; have hlk := hrun _ r hm))) | (intro _ _ k; try have hcv := cv k))); (have gc := (G4.below hT).cell; have hsz : w4.heap.size ≤ wo.heap.size := hT.size); refine Goes.mk ?_; go_simp; first | exact goes_v | exact goes_b (by assumption) | exact goes_new hsz | (refine goes_enter ?_; first | (go_at_call 49; ((with_reducible refine (known_any wo).mono ?_); rintro e w9 ⟨rfl, rfl⟩); exact ret_isKn)))) | (apply ObsK.p (q := isNew w4.heap.size #[.nilFunc, .nilFunc] 85) (by rfl) st_isNew; (intro wo hT; (repeat (first | (intro v hv; ((obtain ⟨r, rfl, hm⟩ := hv; have hlk := hrun _ r hm))) | (intro _ _ k; try have hcv := cv k))); (have gc := (G4.below hT).cell; have hsz : w4.heap.size ≤ wo.heap.size := hT.size); refine Goes.mk ?_; go_simp; first | exact goes_v | exact goes_b (by assumption) | exact goes_new hsz | (refine goes_enter ?_; first | (go_at_call 49; ((with_reducible refine (known_any wo).mono ?_); rintro e w9 ⟨rfl, rfl⟩); exact ret_isKn)))))); refine ObsK.nil ?_; intro wz hBz; simp only [finOn, List.drop_succ_cons, List.drop_zero, List.drop_nil]
  rintro _ ⟨gS, rfl, hS, S5⟩ _ ⟨m, rfl, -⟩
  go_simp
  obtain ⟨wq, hwq, Sq⟩ := store2 S5 (.func (.func 83) #[] #[]) (.func (.func 84) #[] #[])
  have hBq := Sq.bel hBz hS
  have cS5 := S5.cell
  have hsf : ∀ (W : World) (a : Addr) (fn : Fn) (m : Mode), (store a (.func fn #[] #[]) m).run Tryz.prog W = stored Tryz.prog W a (.func fn #[] #[]) m := fun W a fn m => run_store _ W a _ m rfl
  have V5 := Sq.blk
  have Vc5 := V5.cell
  have P5 := P4.below hBq
  have Pc5 := P5.cell
  clear Pc4
  have Z5 := Z4.below hBq
  have Zc5 := Z5.cell
  clear Zc4
  have S5 := S4.below hBq
  have Sc5 := S5.cell
  clear Sc4
  have G5 := G4.below hBq
  have Gc5 := G5.cell
  clear Gc4
  have x5 := x4.below hBq
  have y5 := y4.below hBq
  have z5 := z4.below hBq
  have R5 := below_then R4 hBq
  go_wp2_with (first
    | (go_at_call 84; ((with_reducible refine (hw wq C1 e1 f1 C2 e2 f2 z5).mono ?_); rintro e u6 ⟨⟨pa, pb, rfl, hab, hB6⟩⟩); (obtain ⟨w6, hw6, V6, kQ6, hkQ6, Q6⟩ := nw1 u6 #[.int .u16 pa, .int .u16 pb] 90); have Qc6 := Q6.cell; have T6 := below_then hB6 V6; have P6 := P5.below T6; have Pc6 := P6.cell; clear Pc5; have Z6 := Z5.below T6; have Zc6 := Z6.cell; clear Zc5; have S6 := S5.below T6; have Sc6 := S6.cell; clear Sc5; have G6 := G5.below T6; have Gc6 := G6.cell; clear Gc5; have V6 := V5.below T6; have Vc6 := V6.cell; clear Vc5; have x6 := x5.below T6; have y6 := y5.below T6; have z6 := z5.below T6; have R6 := below_then R5 T6)
    | (go_at_call 50; ((with_reducible refine (htu pa pb hab C1 e1 f1 C2 e2 f2 w6).mono ?_); rintro e w7 ⟨⟨rfl, hB7⟩⟩); have P7 := P6.below hB7; have Pc7 := P7.cell; clear Pc6; have Z7 := Z6.below hB7; have Zc7 := Z7.cell; clear Zc6; have S7 := S6.below hB7; have Sc7 := S7.cell; clear Sc6; have G7 := G6.below hB7; have Gc7 := G7.cell; clear Gc6; have V7 := V6.below hB7; have Vc7 := V7.cell; clear Vc6; have Q7 := Q6.below hB7; have Qc7 := Q7.cell; clear Qc6; have x7 := x6.below hB7; have y7 := y6.below hB7; have z7 := z6.below hB7; have R7 := below_then R6 hB7))
  obtain ⟨wf, hwf, Sf⟩ := store5 Z7 (.int .u8 T.proto) (.int .u32 T.src) (.int .u32 T.dst) (.int .u16 T.sp) (.int .u16 T.dp)
  rw [hwf]
  have pf := Sf.blk.cell
  exact bodyPost_ret (v := .tuple #[(.agg #[.int .u8 (T).proto, .int .u32 (T).src, .int .u32 (T).dst, .int .u16 (T).sp, .int .u16 (T).dp]), .int .i64 F]) (by simp [results, Tryz.results16, go_sem, pf, zT]) rfl ⟨⟨rfl, Sf.bel R7 (by omega)⟩⟩
theorem quo_gre (p : Pkt) (A1 : Option Addr) (n1 c1 : Nat) (A2 : Option Addr) (n2 c2 : Nat) (w : World) (k2 : Bs w A2 n2 c2 p.dat) (s : Msg)  (ht : ∀ W, Bs W A2 n2 c2 p.dat → Calls Tryz.prog 17 #[(.agg #[.int .u8 (p).tos, .int .u16 (p).id, .bool (p).keep, .int .u8 (p).ttl, .int .u8 (p).proto, .int .u32 (p).src, .int .u32 (p).dst, .slice A1 n1 c1, .slice A2 n2 c2])] W (MsPost W s 0))  (he : ∀ B b1 b2 W, Calls Tryz.prog 48 #[(.agg #[.int .u8 (s).ty, .int .u8 (s).code, .int .u32 (s).rest, .slice B b1 b2])] W fun e w' => e = .returned (.bool true) ∧ Below W.heap.size W w') (q : Pkt)  (hq : ∀ B b1 b2 W, Bs W B b1 b2 s.dat → Calls Tryz.prog 18 #[.slice B b1 b2] W fun e w' => ∃ C1 e1 f1 C2 e2 f2, e = .returned (.tuple #[(.agg #[.int .u8 (q).tos, .int .u16 (q).id, .bool (q).keep, .int .u8 (q).ttl, .int .u8 (q).proto, .int .u32 (q).src, .int .u32 (q).dst, .slice C1 e1 f1, .slice C2 e2 f2]), .int .i64 0]) ∧ Bs w' C1 e1 f1 q.opt ∧ Bs w' C2 e2 f2 q.dat ∧ Below W.heap.size W w') (hkn : ∀ (W : World) (r : Nat), W.heap[r]? = some (.map (kn 4) 4) → (Instr.lookup 87 (.map (some r)) (.int .u8 q.proto) true).run Tryz.prog W = .ok (.tuple #[.agg #[.func (.func 85) #[] #[], .func (.func 86) #[] #[]], .bool true]) W) (a0 b0 F : Int)
    (hw : ∀ W C1 e1 f1 C2 e2 f2, Bs W C2 e2 f2 q.dat → Calls Tryz.prog 86 #[(.agg #[.int .u8 (q).tos, .int .u16 (q).id, .bool (q).keep, .int .u8 (q).ttl, .int .u8 (q).proto, .int .u32 (q).src, .int .u32 (q).dst, .slice C1 e1 f1, .slice C2 e2 f2])] W (WyPost W a0 b0 F)) :
    Calls Tryz.prog 16 #[(.agg #[.int .u8 (p).tos, .int .u16 (p).id, .bool (p).keep, .int .u8 (p).ttl, .int .u8 (p).proto, .int .u32 (p).src, .int .u32 (p).dst, .slice A1 n1 c1, .slice A2 n2 c2])] w (TtPost w (tuP q a0 b0 F) F) := by
  have htu : ∀ a b, (F = 0 → a = a0 ∧ b = b0) → ∀ C1 e1 f1 C2 e2 f2 W, Calls Tryz.prog 50 #[(.agg #[.int .u8 (q).tos, .int .u16 (q).id, .bool (q).keep, .int .u8 (q).ttl, .int .u8 (q).proto, .int .u32 (q).src, .int .u32 (q).dst, .slice C1 e1 f1, .slice C2 e2 f2]), .agg #[.int .u16 a, .int .u16 b], .int .i64 F] W (TtPost W (tuP q a0 b0 F) F) := fun a b hab C1 e1 f1 C2 e2 f2 W => by
    have h := tupled_any q C1 e1 f1 C2 e2 f2 a b F W
    have e : tuP q a b F = tuP q a0 b0 F := by
      unfold tuP
      by_cases h0 : F = 0
      · obtain ⟨rfl, rfl⟩ := hab h0; rfl
      · rw [if_pos h0, if_pos h0]
    rw [e] at h
    exact h
  obtain ⟨T, hT'⟩ : ∃ T, tuP q a0 b0 F = T := ⟨_, rfl⟩
  rw [hT'] at htu
  rw [hT']
  clear hT'
  have hrun : ∀ (W : World) (r : Nat), W.heap[r]? = some (.map (kn 4) 4) → (Instr.lookup 87 (.map (some r)) (.int .u8 q.proto) true).run Tryz.prog W = .ok (.tuple #[.agg #[.func (.func 85) #[] #[], .func (.func 86) #[] #[]], .bool true]) W := hkn
  clear hkn
  obtain ⟨k, hk, w1, hw1, P1, Z1, R1⟩ := nwI2 w #[.int .u8 (p).tos, .int .u16 (p).id, .bool (p).keep, .int .u8 (p).ttl, .int .u8 (p).proto, .int .u32 (p).src, .int .u32 (p).dst, .slice A1 n1 c1, .slice A2 n2 c2] 26 #[.int .u8 0, .int .u32 0, .int .u32 0, .int .u16 0, .int .u16 0] 29
  have Pc1 := P1.cell
  have Zc1 := Z1.cell
  have Pl1 := P1.lt
  have Zl1 := Z1.lt
  have x1 := (k2).below R1
  go_enter Tryz.func16, Tryz.ntmps16
  go_wp2_with (first
    | (go_at_call 17; ((with_reducible refine (ht w1 x1).mono ?_); rintro e u2 ⟨⟨DA, dn, dc, rfl, ho, hB2⟩⟩); (obtain ⟨w2, hw2, V2, kS2, hkS2, S2⟩ := nw1 u2 #[.int .u8 (s).ty, .int .u8 (s).code, .int .u32 (s).rest, .slice DA dn dc] 42); have Sc2 := S2.cell; have T2 := below_then hB2 V2; have y2 := (ho.bs).below V2; have P2 := P1.below T2; have Pc2 := P2.cell; clear Pc1; have Z2 := Z1.below T2; have Zc2 := Z2.cell; clear Zc1; have x2 := x1.below T2; have R2 := below_then R1 T2)
    | (go_at_call 48; ((with_reducible refine (he DA dn dc w2).mono ?_); rintro e w3 ⟨rfl, hB3⟩); have P3 := P2.below hB3; have Pc3 := P3.cell; clear Pc2; have Z3 := Z2.below hB3; have Zc3 := Z3.cell; clear Zc2; have S3 := S2.below hB3; have Sc3 := S3.cell; clear Sc2; have x3 := x2.below hB3; have y3 := y2.below hB3; have R3 := below_then R2 hB3)
    | (go_at_call 18; ((with_reducible refine (hq DA dn dc w3 y3).mono ?_); rintro e u4 ⟨C1, e1, f1, C2, e2, f2, rfl, kq1, kq2, hB4⟩); (obtain ⟨w4, hw4, V4, kG4, hkG4, G4⟩ := nw1 u4 #[.int .u8 (q).tos, .int .u16 (q).id, .bool (q).keep, .int .u8 (q).ttl, .int .u8 (q).proto, .int .u32 (q).src, .int .u32 (q).dst, .slice C1 e1 f1, .slice C2 e2 f2] 26); have Gc4 := G4.cell; have T4 := below_then hB4 V4; have z4 := (kq2).below V4; have P4 := P3.below T4; have Pc4 := P4.cell; clear Pc3; have Z4 := Z3.below T4; have Zc4 := Z4.cell; clear Zc3; have S4 := S3.below T4; have Sc4 := S4.cell; clear Sc3; have x4 := x3.below T4; have y4 := y3.below T4; have R4 := below_then R3 T4))
  refine region_z 8 6 (by kernel_rfl) (by kernel_rfl) (fun _ _ _ _ _ h => h) ?_; (iterate 8 (first | (apply ObsK.skip (by rfl)) | (apply ObsK.v (by rfl); (intro wo hT; (repeat (first | (intro v hv; ((obtain ⟨r, rfl, hm⟩ := hv; have hlk := hrun _ r hm))) | (intro _ _ k; try have hcv := cv k))); (have gc := (G4.below hT).cell; have hsz : w4.heap.size ≤ wo.heap.size := hT.size); refine Goes.mk ?_; go_simp; first | exact goes_v | exact goes_b (by assumption) | exact goes_new hsz | (refine goes_enter ?_; first | (go_at_call 49; ((with_reducible refine (known_any wo).mono ?_); rintro e w9 ⟨rfl, rfl⟩); exact ret_isKn)))) | (apply ObsK.b (by rfl); (intro wo hT; (repeat (first | (intro v hv; ((obtain ⟨r, rfl, hm⟩ := hv; have hlk := hrun _ r hm))) | (intro _ _ k; try have hcv := cv k))); (have gc := (G4.below hT).cell; have hsz : w4.heap.size ≤ wo.heap.size := hT.size); refine Goes.mk ?_; go_simp; first | exact goes_v | exact goes_b (by assumption) | exact goes_new hsz | (refine goes_enter ?_; first | (go_at_call 49; ((with_reducible refine (known_any wo).mono ?_); rintro e w9 ⟨rfl, rfl⟩); exact ret_isKn)))) | (apply ObsK.p (q := isKn) (by rfl) st_isKn; (intro wo hT; (repeat (first | (intro v hv; ((obtain ⟨r, rfl, hm⟩ := hv; have hlk := hrun _ r hm))) | (intro _ _ k; try have hcv := cv k))); (have gc := (G4.below hT).cell; have hsz : w4.heap.size ≤ wo.heap.size := hT.size); refine Goes.mk ?_; go_simp; first | exact goes_v | exact goes_b (by assumption) | exact goes_new hsz | (refine goes_enter ?_; first | (go_at_call 49; ((with_reducible refine (known_any wo).mono ?_); rintro e w9 ⟨rfl, rfl⟩); exact ret_isKn)))) | (apply ObsK.p (q := isNew w4.heap.size #[.nilFunc, .nilFunc] 85) (by rfl) st_isNew; (intro wo hT; (repeat (first | (intro v hv; ((obtain ⟨r, rfl, hm⟩ := hv; have hlk := hrun _ r hm))) | (intro _ _ k; try have hcv := cv k))); (have gc := (G4.below hT).cell; have hsz : w4.heap.size ≤ wo.heap.size := hT.size); refine Goes.mk ?_; go_simp; first | exact goes_v | exact goes_b (by assumption) | exact goes_new hsz | (refine goes_enter ?_; first | (go_at_call 49; ((with_reducible refine (known_any wo).mono ?_); rintro e w9 ⟨rfl, rfl⟩); exact ret_isKn)))))); refine ObsK.nil ?_; intro wz hBz; simp only [finOn, List.drop_succ_cons, List.drop_zero, List.drop_nil]
  rintro _ ⟨gS, rfl, hS, S5⟩ _ ⟨m, rfl, -⟩
  go_simp
  obtain ⟨wq, hwq, Sq⟩ := store2 S5 (.func (.func 85) #[] #[]) (.func (.func 86) #[] #[])
  have hBq := Sq.bel hBz hS
  have cS5 := S5.cell
  have hsf : ∀ (W : World) (a : Addr) (fn : Fn) (m : Mode), (store a (.func fn #[] #[]) m).run Tryz.prog W = stored Tryz.prog W a (.func fn #[] #[]) m := fun W a fn m => run_store _ W a _ m rfl
  have V5 := Sq.blk
  have Vc5 := V5.cell
  have P5 := P4.below hBq
  have Pc5 := P5.cell
  clear Pc4
  have Z5 := Z4.below hBq
  have Zc5 := Z5.cell
  clear Zc4
  have S5 := S4.below hBq
  have Sc5 := S5.cell
  clear Sc4
  have G5 := G4.below hBq
  have Gc5 := G5.cell
  clear Gc4
  have x5 := x4.below hBq
  have y5 := y4.below hBq
  have z5 := z4.below hBq
  have R5 := below_then R4 hBq
  go_wp2_with (first
    | (go_at_call 86; ((with_reducible refine (hw wq C1 e1 f1 C2 e2 f2 z5).mono ?_); rintro e u6 ⟨⟨pa, pb, rfl, hab, hB6⟩⟩); (obtain ⟨w6, hw6, V6, kQ6, hkQ6, Q6⟩ := nw1 u6 #[.int .u16 pa, .int .u16 pb] 90); have Qc6 := Q6.cell; have T6 := below_then hB6 V6; have P6 := P5.below T6; have Pc6 := P6.cell; clear Pc5; have Z6 := Z5.below T6; have Zc6 := Z6.cell; clear Zc5; have S6 := S5.below T6; have Sc6 := S6.cell; clear Sc5; have G6 := G5.below T6; have Gc6 := G6.cell; clear Gc5; have V6 := V5.below T6; have Vc6 := V6.cell; clear Vc5; have x6 := x5.below T6; have y6 := y5.below T6; have z6 := z5.below T6; have R6 := below_then R5 T6)
    | (go_at_call 50; ((with_reducible refine (htu pa pb hab C1 e1 f1 C2 e2 f2 w6).mono ?_); rintro e w7 ⟨⟨rfl, hB7⟩⟩); have P7 := P6.below hB7; have Pc7 := P7.cell; clear Pc6; have Z7 := Z6.below hB7; have Zc7 := Z7.cell; clear Zc6; have S7 := S6.below hB7; have Sc7 := S7.cell; clear Sc6; have G7 := G6.below hB7; have Gc7 := G7.cell; clear Gc6; have V7 := V6.below hB7; have Vc7 := V7.cell; clear Vc6; have Q7 := Q6.below hB7; have Qc7 := Q7.cell; clear Qc6; have x7 := x6.below hB7; have y7 := y6.below hB7; have z7 := z6.below hB7; have R7 := below_then R6 hB7))
  obtain ⟨wf, hwf, Sf⟩ := store5 Z7 (.int .u8 T.proto) (.int .u32 T.src) (.int .u32 T.dst) (.int .u16 T.sp) (.int .u16 T.dp)
  rw [hwf]
  have pf := Sf.blk.cell
  exact bodyPost_ret (v := .tuple #[(.agg #[.int .u8 (T).proto, .int .u32 (T).src, .int .u32 (T).dst, .int .u16 (T).sp, .int .u16 (T).dp]), .int .i64 F]) (by simp [results, Tryz.results16, go_sem, pf, zT]) rfl ⟨⟨rfl, Sf.bel R7 (by omega)⟩⟩
theorem quo_none (p : Pkt) (A1 : Option Addr) (n1 c1 : Nat) (A2 : Option Addr) (n2 c2 : Nat) (w : World) (k2 : Bs w A2 n2 c2 p.dat) (s : Msg)  (ht : ∀ W, Bs W A2 n2 c2 p.dat → Calls Tryz.prog 17 #[(.agg #[.int .u8 (p).tos, .int .u16 (p).id, .bool (p).keep, .int .u8 (p).ttl, .int .u8 (p).proto, .int .u32 (p).src, .int .u32 (p).dst, .slice A1 n1 c1, .slice A2 n2 c2])] W (MsPost W s 0))  (he : ∀ B b1 b2 W, Calls Tryz.prog 48 #[(.agg #[.int .u8 (s).ty, .int .u8 (s).code, .int .u32 (s).rest, .slice B b1 b2])] W fun e w' => e = .returned (.bool true) ∧ Below W.heap.size W w') (q : Pkt)  (hq : ∀ B b1 b2 W, Bs W B b1 b2 s.dat → Calls Tryz.prog 18 #[.slice B b1 b2] W fun e w' => ∃ C1 e1 f1 C2 e2 f2, e = .returned (.tuple #[(.agg #[.int .u8 (q).tos, .int .u16 (q).id, .bool (q).keep, .int .u8 (q).ttl, .int .u8 (q).proto, .int .u32 (q).src, .int .u32 (q).dst, .slice C1 e1 f1, .slice C2 e2 f2]), .int .i64 0]) ∧ Bs w' C1 e1 f1 q.opt ∧ Bs w' C2 e2 f2 q.dat ∧ Below W.heap.size W w') (hkn : ∀ (W : World) (r : Nat), W.heap[r]? = some (.map (kn 4) 4) → (Instr.lookup 87 (.map (some r)) (.int .u8 q.proto) true).run Tryz.prog W = .ok (.tuple #[.agg #[.nilFunc, .nilFunc], .bool false]) W) :
    Calls Tryz.prog 16 #[(.agg #[.int .u8 (p).tos, .int .u16 (p).id, .bool (p).keep, .int .u8 (p).ttl, .int .u8 (p).proto, .int .u32 (p).src, .int .u32 (p).dst, .slice A1 n1 c1, .slice A2 n2 c2])] w (TtPost w zT 12) := by
  have hrun : ∀ (W : World) (r : Nat), W.heap[r]? = some (.map (kn 4) 4) → (Instr.lookup 87 (.map (some r)) (.int .u8 q.proto) true).run Tryz.prog W = .ok (.tuple #[.agg #[.nilFunc, .nilFunc], .bool false]) W := hkn
  clear hkn
  obtain ⟨k, hk, w1, hw1, P1, Z1, R1⟩ := nwI2 w #[.int .u8 (p).tos, .int .u16 (p).id, .bool (p).keep, .int .u8 (p).ttl, .int .u8 (p).proto, .int .u32 (p).src, .int .u32 (p).dst, .slice A1 n1 c1, .slice A2 n2 c2] 26 #[.int .u8 0, .int .u32 0, .int .u32 0, .int .u16 0, .int .u16 0] 29
  have Pc1 := P1.cell
  have Zc1 := Z1.cell
  have Pl1 := P1.lt
  have Zl1 := Z1.lt
  have x1 := (k2).below R1
  go_enter Tryz.func16, Tryz.ntmps16
  go_wp2_with (first
    | (go_at_call 17; ((with_reducible refine (ht w1 x1).mono ?_); rintro e u2 ⟨⟨DA, dn, dc, rfl, ho, hB2⟩⟩); (obtain ⟨w2, hw2, V2, kS2, hkS2, S2⟩ := nw1 u2 #[.int .u8 (s).ty, .int .u8 (s).code, .int .u32 (s).rest, .slice DA dn dc] 42); have Sc2 := S2.cell; have T2 := below_then hB2 V2; have y2 := (ho.bs).below V2; have P2 := P1.below T2; have Pc2 := P2.cell; clear Pc1; have Z2 := Z1.below T2; have Zc2 := Z2.cell; clear Zc1; have x2 := x1.below T2; have R2 := below_then R1 T2)
    | (go_at_call 48; ((with_reducible refine (he DA dn dc w2).mono ?_); rintro e w3 ⟨rfl, hB3⟩); have P3 := P2.below hB3; have Pc3 := P3.cell; clear Pc2; have Z3 := Z2.below hB3; have Zc3 := Z3.cell; clear Zc2; have S3 := S2.below hB3; have Sc3 := S3.cell; clear Sc2; have x3 := x2.below hB3; have y3 := y2.below hB3; have R3 := below_then R2 hB3)
    | (go_at_call 18; ((with_reducible refine (hq DA dn dc w3 y3).mono ?_); rintro e u4 ⟨C1, e1, f1, C2, e2, f2, rfl, kq1, kq2, hB4⟩); (obtain ⟨w4, hw4, V4, kG4, hkG4, G4⟩ := nw1 u4 #[.int .u8 (q).tos, .int .u16 (q).id, .bool (q).keep, .int .u8 (q).ttl, .int .u8 (q).proto, .int .u32 (q).src, .int .u32 (q).dst, .slice C1 e1 f1, .slice C2 e2 f2] 26); have Gc4 := G4.cell; have T4 := below_then hB4 V4; have z4 := (kq2).below V4; have P4 := P3.below T4; have Pc4 := P4.cell; clear Pc3; have Z4 := Z3.below T4; have Zc4 := Z4.cell; clear Zc3; have S4 := S3.below T4; have Sc4 := S4.cell; clear Sc3; have x4 := x3.below T4; have y4 := y3.below T4; have R4 := below_then R3 T4))
  refine region_z 8 6 (by kernel_rfl) (by kernel_rfl) (fun _ _ _ _ _ h => h) ?_; (iterate 8 (first | (apply ObsK.skip (by rfl)) | (apply ObsK.v (by rfl); (intro wo hT; (repeat (first | (intro v hv; ((obtain ⟨r, rfl, hm⟩ := hv; have hlk := hrun _ r hm))) | (intro _ _ k; try have hcv := cv k))); (have gc := (G4.below hT).cell; have hsz : w4.heap.size ≤ wo.heap.size := hT.size); refine Goes.mk ?_; go_simp; first | exact goes_v | exact goes_b (by assumption) | exact goes_new hsz | (refine goes_enter ?_; first | (go_at_call 49; ((with_reducible refine (known_any wo).mono ?_); rintro e w9 ⟨rfl, rfl⟩); exact ret_isKn)))) | (apply ObsK.b (by rfl); (intro wo hT; (repeat (first | (intro v hv; ((obtain ⟨r, rfl, hm⟩ := hv; have hlk := hrun _ r hm))) | (intro _ _ k; try have hcv := cv k))); (have gc := (G4.below hT).cell; have hsz : w4.heap.size ≤ wo.heap.size := hT.size); refine Goes.mk ?_; go_simp; first | exact goes_v | exact goes_b (by assumption) | exact goes_new hsz | (refine goes_enter ?_; first | (go_at_call 49; ((with_reducible refine (known_any wo).mono ?_); rintro e w9 ⟨rfl, rfl⟩); exact ret_isKn)))) | (apply ObsK.p (q := isKn) (by rfl) st_isKn; (intro wo hT; (repeat (first | (intro v hv; ((obtain ⟨r, rfl, hm⟩ := hv; have hlk := hrun _ r hm))) | (intro _ _ k; try have hcv := cv k))); (have gc := (G4.below hT).cell; have hsz : w4.heap.size ≤ wo.heap.size := hT.size); refine Goes.mk ?_; go_simp; first | exact goes_v | exact goes_b (by assumption) | exact goes_new hsz | (refine goes_enter ?_; first | (go_at_call 49; ((with_reducible refine (known_any wo).mono ?_); rintro e w9 ⟨rfl, rfl⟩); exact ret_isKn)))) | (apply ObsK.p (q := isNew w4.heap.size #[.nilFunc, .nilFunc] 85) (by rfl) st_isNew; (intro wo hT; (repeat (first | (intro v hv; ((obtain ⟨r, rfl, hm⟩ := hv; have hlk := hrun _ r hm))) | (intro _ _ k; try have hcv := cv k))); (have gc := (G4.below hT).cell; have hsz : w4.heap.size ≤ wo.heap.size := hT.size); refine Goes.mk ?_; go_simp; first | exact goes_v | exact goes_b (by assumption) | exact goes_new hsz | (refine goes_enter ?_; first | (go_at_call 49; ((with_reducible refine (known_any wo).mono ?_); rintro e w9 ⟨rfl, rfl⟩); exact ret_isKn)))))); refine ObsK.nil ?_; intro wz hBz; simp only [finOn, List.drop_succ_cons, List.drop_zero, List.drop_nil]
  rintro _ ⟨gS, rfl, hS, S5⟩ _ ⟨m, rfl, -⟩
  go_simp
  obtain ⟨wq, hwq, Sq⟩ := store2 S5 (.nilFunc) (.nilFunc)
  have hBq := Sq.bel hBz hS
  have cS5 := S5.cell
  have hsf : ∀ (W : World) (a : Addr) (m : Mode), (store a .nilFunc m).run Tryz.prog W = stored Tryz.prog W a .nilFunc m := fun W a m => run_store _ W a _ m rfl
  have P5 := P4.below hBq
  have Pc5 := P5.cell
  clear Pc4
  have Z5 := Z4.below hBq
  have Zc5 := Z5.cell
  clear Zc4
  have S5 := S4.below hBq
  have Sc5 := S5.cell
  clear Sc4
  have G5 := G4.below hBq
  have Gc5 := G5.cell
  clear Gc4
  have x5 := x4.below hBq
  have y5 := y4.below hBq
  have z5 := z4.below hBq
  have R5 := below_then R4 hBq
  go_wp2_with fail
  obtain ⟨wf, hwf, Sf⟩ := store5 Z5 (.int .u8 0) (.int .u32 0) (.int .u32 0) (.int .u16 0) (.int .u16 0)
  rw [hwf]
  have pf := Sf.blk.cell
  exact bodyPost_ret (v := .tuple #[(.agg #[.int .u8 (zT).proto, .int .u32 (zT).src, .int .u32 (zT).dst, .int .u16 (zT).sp, .int .u16 (zT).dp]), .int .i64 12]) (by simp [results, Tryz.results16, go_sem, pf, zT]) rfl ⟨⟨rfl, Sf.bel R5 (by omega)⟩⟩
theorem quo_any (p : Pkt) (A1 : Option Addr) (n1 c1 : Nat) (A2 : Option Addr) (n2 c2 : Nat) (w : World) (k2 : Bs w A2 n2 c2 p.dat) :
    Calls Tryz.prog 16 #[(.agg #[.int .u8 (p).tos, .int .u16 (p).id, .bool (p).keep, .int .u8 (p).ttl, .int .u8 (p).proto, .int .u32 (p).src, .int .u32 (p).dst, .slice A1 n1 c1, .slice A2 n2 c2])] w (TtPost w (quT p) (quE p)) := by
  have ht := fun W (h : Bs W A2 n2 c2 p.dat) => icmp_any p A1 n1 c1 A2 n2 c2 W h
  have he := fun B b1 b2 W => iserr_any (icM p) B b1 b2 W
  have hq : ∀ B b1 b2 W, Bs W B b1 b2 (icM p).dat → _ := fun B b1 b2 W k => ipQuote_v (l := (icM p).dat) rfl rfl B b1 b2 W k
  rcases quE_ways p with ⟨e, h0⟩ | ⟨e, h0, h1⟩ | ⟨h0, h1, h2, e⟩ | ⟨h0, h1, h2, e⟩
  · rw [(quT_no (by rw [e]; exact h0)).1, e]
    exact quo_1 p A1 n1 c1 A2 n2 c2 w k2 _ _ ht h0
  · rw [(quT_no (by rw [e]; decide)).1, e]
    rw [h0] at ht
    rw [h1] at he
    exact quo_2 p A1 n1 c1 A2 n2 c2 w k2 _ ht he
  · rw [(quT_no (by rw [e]; exact h2)).1, e]
    rw [h0] at ht
    rw [h1] at he
    exact quo_3 p A1 n1 c1 A2 n2 c2 w k2 _ ht he _ _ hq h2
  · rw [quT_in e, e]
    rw [h0] at ht
    rw [h1] at he
    rw [h2] at hq
    have h8 := rd_8 h2
    obtain ⟨q, hqq⟩ : ∃ q, rdPk true (icM p).dat = q := ⟨_, rfl⟩
    rw [hqq] at hq h8
    rw [hqq]
    unfold inT
    have hkn := fun W r h => run_known (W := W) (r := r) h q.proto
    rcases inE_ways q with ⟨t, i1, i2, i3⟩ | ⟨t, i1, i2, i3⟩ | ⟨t, i1, i2, i3⟩ | ⟨t, i1, i2, i3⟩ | ⟨t6, t17, t1, t47, i1⟩
    · rw [i1, i2, i3]
      rw [show knV q.proto = wayT from by rw [t]; rfl, show knB q.proto = true from by rw [t]; rfl] at hkn
      exact quo_tcp p A1 n1 c1 A2 n2 c2 w k2 _ ht he _ hq hkn _ _ _ (fun W C1 e1 f1 C2 e2 f2 k => ktwo_any q C1 e1 f1 C2 e2 f2 W k)
    · rw [i1, i2, i3]
      rw [show knV q.proto = wayU from by rw [t]; rfl, show knB q.proto = true from by rw [t]; rfl] at hkn
      exact quo_udp p A1 n1 c1 A2 n2 c2 w k2 _ ht he _ hq hkn _ _ _ (fun W C1 e1 f1 C2 e2 f2 k => ktwo_any q C1 e1 f1 C2 e2 f2 W k)
    · rw [i1, i2, i3]
      rw [show knV q.proto = wayI from by rw [t]; rfl, show knB q.proto = true from by rw [t]; rfl] at hkn
      exact quo_icmp p A1 n1 c1 A2 n2 c2 w k2 _ ht he _ hq hkn _ _ _ (fun W C1 e1 f1 C2 e2 f2 k => qecho_any q C1 e1 f1 C2 e2 f2 W k (by have := k.len; omega))
    · rw [i1, i2, i3]
      rw [show knV q.proto = wayG from by rw [t]; rfl, show knB q.proto = true from by rw [t]; rfl] at hkn
      exact quo_gre p A1 n1 c1 A2 n2 c2 w k2 _ ht he _ hq hkn _ _ _ (fun W C1 e1 f1 C2 e2 f2 k => qframe_any q C1 e1 f1 C2 e2 f2 W k (by have := k.len; omega))
    · rw [i1, show tuP q (inA q) (inB q) 12 = zT from by unfold tuP; rw [if_pos (by decide)]]
      rw [show knV q.proto = .agg #[.nilFunc, .nilFunc] from by unfold knV; rw [if_neg t6, if_neg t17, if_neg t1, if_neg t47], show knB q.proto = false from by simp [knB, t6, t17, t1, t47]] at hkn
      exact quo_none p A1 n1 c1 A2 n2 c2 w k2 _ ht he _ hq hkn
end Go.Proofs.YtjhpmeagopdaiaaGreat
namespace Go.Proofs.YtjhpmeagopdaiaaGreat
open Go.RowKit
set_option linter.unusedVariables false
set_option linter.unusedSimpArgs false
set_option maxHeartbeats 8000000
set_option maxRecDepth 100000
theorem Bs.recap {w : World} {A : Option Addr} {n c c' : Nat} {l : List UInt8} (h : Bs w A n c l) (hn : n ≤ c') (hA : A = none → c' = 0) : Bs w A n c' l := ⟨h.len, hn, h.max, hA, h.rd⟩
section
variable {P : Program}
theorem run_append_tightB (w : World) (base : Nat) (t ty e : TypeId) (ht : P.underlying t = some (.slice e)) (hinfo : (P.info? e).map (fun i => (i.zero, i.size, i.bytes)) = some (some (.int .u8 0), 1, 1))
    (ad : Addr) (n : Nat) (l : List UInt8) (hb : Bs w (some ad) n n l) (ad2 : Addr) (n2 c2 : Nat) (l2 : List UInt8) (hr : Bs w (some ad2) n2 c2 l2) (h0 : 0 < n2)
    (hmax : n + n2 ≤ 200000000000000) (hbase : base ≤ w.heap.size) :
    ∃ A' c' w', (Builtin.append_ #[t, t] ty #[.slice (some ad) n n, .slice (some ad2) n2 c2]).run P w = .ok (.slice A' (n + n2) c') w' ∧ Own w' base e A' (n + n2) c' (l ++ l2) ∧ Below w.heap.size w w' := by
  obtain ⟨i, hi, hz, hs, hby⟩ := info_parts hinfo
  have hl : (cu l).length = n := by rw [cu_length, hb.len]
  have hl2 : (cu l2).length = n2 := by rw [cu_length, hr.len]
  have h := run_append_grow (P := P) w t ty e i (.int .u8 0) ht hi hz ad n n (cu l) (by rw [hl, hs]; omega) (hb.cells rfl) ad2 n2 c2 (cu l2) (by rw [hl2, hs]; omega) (hr.cells rfl) (by omega) (by omega) (growslice_fits_wide (by omega) (by rw [hby]; omega))
  have hge := grownCap_ge w (n + n2) n e
  have hcm : grownCap w (n + n2) n e ≤ maxLen := grownCap_le_maxLen w (n + n2) n e (by simp only [maxLen]; omega)
  have hlen : (cu l ++ cu l2).length = n + n2 := by rw [List.length_append, hl, hl2]
  refine ⟨_, _, _, h, ⟨by rw [List.length_append, hb.len, hr.len], hmax, ?_⟩, (Below.drew (Below.refl _ w)).alloc (Nat.le_refl _) _⟩
  refine ⟨by rw [cu_length, List.length_append, hb.len, hr.len]; omega, .inr ⟨w.heap.size, _, _, rfl, hbase, heap_alloc_new w.drew _, hge, hcm, ?_, ?_⟩⟩
  · have hc1 : (Value.int IntKind.u8 0).cells.size = 1 := rfl
    simp only [Array.size_append, List.size_toArray, size_zeroCells, hc1, hl, hl2]
    omega
  · simp only [Array.toList_append, List.append_assoc]
    rw [← List.append_assoc, show (n + n2) * 1 = (cu l ++ cu l2).length from by rw [hlen]; omega, List.take_left, cu_append]
end
theorem goes_appB {o : Oper} {a : Act} {W : World} (s x : Operand) (ho : o.op = .call { callee := .builtin .append, args := #[s, x], argTypes := #[24, 24] }) {B n : Nat} {ad : Addr} {l : List UInt8} (hs : a.eval s = .slice (some ad) n n)
    (hown : Bs W (some ad) n n l) {A2 : Option Addr} {n2 c2 : Nat} {l2 : List UInt8} (hx : a.eval x = .slice A2 n2 c2) (hr : Bs W A2 n2 c2 l2) (h0 : 0 < n2) (hmax : n + n2 ≤ 200000000000000) (hB : B ≤ W.heap.size) :
    OpGoes Tryz.prog (fun v w' => (Kd.p (isW B (l ++ l2))).holds w' v ∧ Below W.heap.size W w') ((execOp a.eval o).run Tryz.prog W) := by
  obtain ⟨b2, o2, rfl⟩ := hr.some_ h0
  obtain ⟨A', c', w', hrun, hown', hB'⟩ := run_append_tightB (P := Tryz.prog) W B 24 o.type 5 Tryz.underlying24 info_u8 ad n l hown ⟨b2, o2, none⟩ n2 c2 l2 hr h0 hmax hB
  unfold execOp
  simp only [ho, resolve, invoke, builtin, Sem.run_bind, Sem.run_pure, Result.andThen_ok, List.map_toArray, List.map_cons, List.map_nil, hs, hx, hrun]
  exact ⟨⟨A', _, c', rfl, hown'⟩, hB'⟩
def rqL2 (M : List UInt8) (t : Tup) : List UInt8 := put32 (put32 M 12 t.src) 16 t.dst
def rqL4 (M : List UInt8) (h : Nat) (t : Tup) : List UInt8 := put16 (put16 (rqL2 M t) 10 0) 10 (csum ((put16 (rqL2 M t) 10 0).take h))
def rqDat (M : List UInt8) (h e : Nat) (u t : Tup) : List UInt8 := ((rqL4 M h t).take h ++ bodyB (((rqL4 M h t).take e).drop h) u t) ++ ((rqL4 M h t).take M.length).drop e
theorem rqL4_len (M : List UInt8) (h : Nat) (t : Tup) : (rqL4 M h t).length = M.length := by unfold rqL4 rqL2; simp [put16_length, put32_length]
theorem rqDat_len {M : List UInt8} {h e : Nat} (u t : Tup) (h1 : h ≤ e) (h2 : e ≤ M.length) : (rqDat M h e u t).length = M.length := by
  unfold rqDat
  simp only [List.length_append, bodyB_len, List.length_drop, List.length_take, rqL4_len]
  omega
theorem rq_ok (p : Pkt) (A1 : Option Addr) (n1 c1 : Nat) (A2 : Option Addr) (n2 c2 : Nat) (w : World) (k1 : Bs w A1 n1 c1 p.opt) (k2 : Bs w A2 n2 c2 p.dat) (sa sb : Int) (t : Tup) (ht : t.Ok)
    (U : Tup) (hU : U.Ok) (cq : ∀ W, Bs W A2 n2 c2 p.dat → Calls Tryz.prog 16 #[(.agg #[.int .u8 (p).tos, .int .u16 (p).id, .bool (p).keep, .int .u8 (p).ttl, .int .u8 (p).proto, .int .u32 (p).src, .int .u32 (p).dst, .slice A1 n1 c1, .slice A2 n2 c2])] W (TtPost W U 0)) (hne : (U.proto != t.proto) = false)
    (s : Msg) (ci : ∀ W, Bs W A2 n2 c2 p.dat → Calls Tryz.prog 17 #[(.agg #[.int .u8 (p).tos, .int .u16 (p).id, .bool (p).keep, .int .u8 (p).ttl, .int .u8 (p).proto, .int .u32 (p).src, .int .u32 (p).dst, .slice A1 n1 c1, .slice A2 n2 c2])] W (MsPost W s 0))
    (q : Pkt) (cqt : ∀ B b1 b2 W, Bs W B b1 b2 s.dat → Calls Tryz.prog 18 #[.slice B b1 b2] W fun e w' => ∃ C1 e1 f1 C2 e2 f2, e = .returned (.tuple #[(.agg #[.int .u8 (q).tos, .int .u16 (q).id, .bool (q).keep, .int .u8 (q).ttl, .int .u8 (q).proto, .int .u32 (q).src, .int .u32 (q).dst, .slice C1 e1 f1, .slice C2 e2 f2]), .int .i64 0]) ∧ Bs w' C1 e1 f1 q.opt ∧ Bs w' C2 e2 f2 q.dat ∧ Below W.heap.size W w')
    (nM h e : Nat) (hnM : s.dat.length = nM) (on : Nat) (hon : q.opt.length = on) (hh : 20 + on = h) (he : h + q.dat.length = e) (heM : e ≤ nM) (h8 : 8 ≤ q.dat.length) (hM : nM ≤ 140737488351232) (Q : Pkt) (E : Int)
    (cb : ∀ B b1 b2 W, Bs W A1 n1 c1 p.opt → Bs W B b1 b2 (rqDat s.dat h e U t) → b1 ≤ 140737488400000 → Calls Tryz.prog 23 #[.agg #[.int .u8 p.tos, .int .u16 p.id, .bool p.keep, .int .u8 p.ttl, .int .u8 p.proto, .int .u32 sa, .int .u32 sb, .slice A1 n1 c1, .slice A2 n2 c2], .agg #[.int .u8 s.ty, .int .u8 s.code, .int .u32 s.rest, .slice B b1 b2]] W (WiPost W Q E)) :
    Calls Tryz.prog 5 #[(.agg #[.int .u8 (p).tos, .int .u16 (p).id, .bool (p).keep, .int .u8 (p).ttl, .int .u8 (p).proto, .int .u32 (p).src, .int .u32 (p).dst, .slice A1 n1 c1, .slice A2 n2 c2]), .int .u32 sa, .int .u32 sb, (.agg #[.int .u8 (t).proto, .int .u32 (t).src, .int .u32 (t).dst, .int .u16 (t).sp, .int .u16 (t).dp])] w (WiPost w Q E) := by
  obtain ⟨sr0, sr1⟩ := ht.src
  obtain ⟨ds0, ds1⟩ := ht.dst
  obtain ⟨i8, hi8, -, hs8, -⟩ := info_parts info_u8
  obtain ⟨L2, hL2⟩ : ∃ L, rqL2 s.dat t = L := ⟨_, rfl⟩
  obtain ⟨L3, hL3⟩ : ∃ L, put16 L2 10 0 = L := ⟨_, rfl⟩
  obtain ⟨x, hx⟩ : ∃ x, csum (L3.take h) = x := ⟨_, rfl⟩
  obtain ⟨L4, hL4⟩ : ∃ L, put16 L3 10 x = L := ⟨_, rfl⟩
  have hL4' : rqL4 s.dat h t = L4 := by unfold rqL4; rw [hL2, hL3, hx, hL4]
  have l2 : L2.length = nM := by rw [← hL2, rqL2, put32_length, put32_length, hnM]
  have l3 : L3.length = nM := by rw [← hL3, put16_length, l2]
  have l4 : L4.length = nM := by rw [← hL4, put16_length, l3]
  have x0 : 0 ≤ x := by rw [← hx]; exact csum_lo _
  have x1' : x ≤ 65535 := by rw [← hx]; exact csum_hi _
  have cp0 : ∀ A c W, Bs W A nM c L2 → Calls Tryz.prog 20 #[.slice A nM c, .int .i64 10, .int .u16 0] W fun e w' => ∃ A' c', e = .returned (.slice A' nM c') ∧ Own w' W.heap.size 5 A' nM c' L3 ∧ Below W.heap.size W w' := fun A c W k => by
    have := put16_any A nM c L2 10 0 (by omega) (by omega) W k
    rw [hL3] at this
    exact this
  have cs : ∀ A c W, Bs W A h c (L3.take h) → Calls Tryz.prog 21 #[.slice A h c] W fun e w' => e = .returned (.int .u16 x) ∧ Below W.heap.size W w' := fun A c W k => by
    have := sum_any A h c (L3.take h) W k
    rw [hx] at this
    exact this
  have cp1 : ∀ A c W, Bs W A nM c L3 → Calls Tryz.prog 20 #[.slice A nM c, .int .i64 10, .int .u16 x] W fun e w' => ∃ A' c', e = .returned (.slice A' nM c') ∧ Own w' W.heap.size 5 A' nM c' L4 ∧ Below W.heap.size W w' := fun A c W k => by
    have := put16_any A nM c L3 10 x x0 x1' W k
    rw [hL4] at this
    exact this
  obtain ⟨dn, hdn⟩ : ∃ d, q.dat.length = d := ⟨_, rfl⟩
  rw [hdn] at he h8
  obtain ⟨X, hX⟩ : ∃ X, bodyB ((L4.take e).drop h) U t = X := ⟨_, rfl⟩
  have lmid : ((L4.take e).drop h).length = dn := by rw [List.length_drop, List.length_take, l4]; omega
  have lX : X.length = dn := by rw [← hX, bodyB_len, lmid]
  have cbd : ∀ A c W, Bs W A dn c ((L4.take e).drop h) → Calls Tryz.prog 22 #[.slice A dn c, (.agg #[.int .u8 (U).proto, .int .u32 (U).src, .int .u32 (U).dst, .int .u16 (U).sp, .int .u16 (U).dp]), (.agg #[.int .u8 (t).proto, .int .u32 (t).src, .int .u32 (t).dst, .int .u16 (t).sp, .int .u16 (t).dp])] W (RowPost W dn X) := fun A c W k => by
    have := body_any A dn c _ U t hU ht W k
    rw [hX] at this
    exact this
  have hD : rqDat s.dat h e U t = (L4.take h ++ X) ++ (L4.take nM).drop e := by unfold rqDat; rw [hL4', hX, hnM]
  rw [hD] at cb
  have lD : ((L4.take h ++ X) ++ (L4.take nM).drop e).length = nM := by
    rw [List.length_append, List.length_append, List.length_drop, List.length_take, List.length_take, l4, lX]; omega
  have hqo : Hid (q.opt.length = on) := hon
  have hhi : 20 + (on : Int) = (h : Int) := by omega
  have hei : (h : Int) + (dn : Int) = (e : Int) := by omega
  have hl2 : Hid (L2.length = nM) := l2
  have hqd : Hid (q.dat.length = dn) := hdn
  have hms : Hid (s.dat.length = nM) := hnM
  have h20 : 20 ≤ h := by omega
  have hhe : h ≤ e := by omega
  have hhM : h ≤ nM := by omega
  have HD := Lib.hid lD
  have HX := Lib.hid lX
  have HL2 : Hid (put32 (put32 s.dat 12 t.src) 16 t.dst = L2) := hL2
  have hE2 : Hid (e - h = dn) := by unfold Hid; omega
  clear hD lD lX lmid hX hL4' hL4 hL3 hL2 hx l2 l3 l4 hU ht hnM hh hdn hon he
  obtain ⟨k, hk, w1, hw1, P1, O1, Z1, R1⟩ := nwI3 w #[.int .u8 (p).tos, .int .u16 (p).id, .bool (p).keep, .int .u8 (p).ttl, .int .u8 (p).proto, .int .u32 (p).src, .int .u32 (p).dst, .slice A1 n1 c1, .slice A2 n2 c2] 26 #[.int .u8 (t).proto, .int .u32 (t).src, .int .u32 (t).dst, .int .u16 (t).sp, .int .u16 (t).dp] 29 #[.int .u8 0, .int .u16 0, .bool false, .int .u8 0, .int .u8 0, .int .u32 0, .int .u32 0, .slice none 0 0, .slice none 0 0] 26
  have Pc1 := P1.cell
  have Oc1 := O1.cell
  have Zc1 := Z1.cell
  have Pl1 := P1.lt
  have Ol1 := O1.lt
  have Zl1 := Z1.lt
  have x1 := (k1).below R1
  have y1 := (k2).below R1
  go_enter Tryz.func5, Tryz.ntmps5
  go_wp2_with (first
    | (go_at_call 16; ((with_reducible refine (cq w1 y1).mono ?_); rintro e u2 ⟨⟨rfl, hB2⟩⟩); (obtain ⟨w2, hw2, V2, kG2, hkG2, G2⟩ := nw1 u2 #[.int .u8 (U).proto, .int .u32 (U).src, .int .u32 (U).dst, .int .u16 (U).sp, .int .u16 (U).dp] 29); have Gc2 := G2.cell; have T2 := below_then hB2 V2; have P2 := P1.below T2; have Pc2 := P2.cell; clear Pc1; have O2 := O1.below T2; have Oc2 := O2.cell; clear Oc1; have Z2 := Z1.below T2; have Zc2 := Z2.cell; clear Zc1; have x2 := x1.below T2; have y2 := y1.below T2; have R2 := below_then R1 T2)
    | (go_at_call 17; ((with_reducible refine (ci w2 y2).mono ?_); rintro e u3 ⟨⟨DA, dm, dc, rfl, od, hB3⟩⟩); have udm : dm = nM := (by rw [← od.len]; exact hms.out); subst udm; (obtain ⟨w3, hw3, V3, kS3, hkS3, S3⟩ := nw1 u3 #[.int .u8 (s).ty, .int .u8 (s).code, .int .u32 (s).rest, .slice DA dm dc] 42); have Sc3 := S3.cell; have T3 := below_then hB3 V3; have z3 := (od.bs).below V3; have P3 := P2.below T3; have Pc3 := P3.cell; clear Pc2; have O3 := O2.below T3; have Oc3 := O3.cell; clear Oc2; have Z3 := Z2.below T3; have Zc3 := Z3.cell; clear Zc2; have G3 := G2.below T3; have Gc3 := G3.cell; clear Gc2; have x3 := x2.below T3; have y3 := y2.below T3; have R3 := below_then R2 T3)
    | (go_at_call 18; ((with_reducible refine (cqt DA dm dc w3 z3).mono ?_); rintro e u4 ⟨C1, e1, f1, C2, e2, f2, rfl, kq1, kq2, hB4⟩); have ue1 : e1 = on := (by rw [← kq1.len]; exact hqo.out); subst ue1; have ue2 : e2 = dn := (by rw [← kq2.len]; exact hqd.out); subst ue2; (obtain ⟨w4, hw4, V4, kI4, hkI4, I4⟩ := nw1 u4 #[.int .u8 (q).tos, .int .u16 (q).id, .bool (q).keep, .int .u8 (q).ttl, .int .u8 (q).proto, .int .u32 (q).src, .int .u32 (q).dst, .slice C1 e1 f1, .slice C2 e2 f2] 26); have Ic4 := I4.cell; have T4 := below_then hB4 V4; have P4 := P3.below T4; have Pc4 := P4.cell; clear Pc3; have O4 := O3.below T4; have Oc4 := O4.cell; clear Oc3; have Z4 := Z3.below T4; have Zc4 := Z4.cell; clear Zc3; have G4 := G3.below T4; have Gc4 := G4.cell; clear Gc3; have S4 := S3.below T4; have Sc4 := S4.cell; clear Sc3; have x4 := x3.below T4; have y4 := y3.below T4; have z4 := z3.below T4; have R4 := below_then R3 T4))
  refine region_txt 8 (by kernel_rfl) (by kernel_rfl) ?_; (iterate 8 (first | (apply ObsK.skip (by rfl)) | (apply ObsK.v (by rfl); (intro wo hT; (repeat (first | (intro v hv; ((obtain ⟨A7, n7, c7, rfl, o7⟩ := hv))) | (intro _ _ k; try have hcv := cv k))); (have oc := (O4.below hT).cell; have sc := (S4.below hT).cell; have zo := z4.below hT; have hsz : w4.heap.size ≤ wo.heap.size := hT.size); refine Goes.mk ?_; go_simp; first | exact goes_v | exact goes_b (by assumption) | (refine goes_enter ?_; first | (go_at_call 19; ((with_reducible refine (put32_any DA dm dc s.dat 12 t.src sr0 sr1 wo zo).mono ?_); rintro e w5 ⟨A5, c5, rfl, ho5, hB5⟩); exact ret_p (own_isW ho5 hsz) hB5) | (go_at_call 19; ((with_reducible refine (put32_any A7 n7 c7 _ 16 t.dst ds0 ds1 wo o7.bs).mono ?_); rintro e w5 ⟨A5, c5, rfl, ho5, hB5⟩); exact ret_p (own_isW ho5 hsz) hB5)))) | (apply ObsK.b (by rfl); (intro wo hT; (repeat (first | (intro v hv; ((obtain ⟨A7, n7, c7, rfl, o7⟩ := hv))) | (intro _ _ k; try have hcv := cv k))); (have oc := (O4.below hT).cell; have sc := (S4.below hT).cell; have zo := z4.below hT; have hsz : w4.heap.size ≤ wo.heap.size := hT.size); refine Goes.mk ?_; go_simp; first | exact goes_v | exact goes_b (by assumption) | (refine goes_enter ?_; first | (go_at_call 19; ((with_reducible refine (put32_any DA dm dc s.dat 12 t.src sr0 sr1 wo zo).mono ?_); rintro e w5 ⟨A5, c5, rfl, ho5, hB5⟩); exact ret_p (own_isW ho5 hsz) hB5) | (go_at_call 19; ((with_reducible refine (put32_any A7 n7 c7 _ 16 t.dst ds0 ds1 wo o7.bs).mono ?_); rintro e w5 ⟨A5, c5, rfl, ho5, hB5⟩); exact ret_p (own_isW ho5 hsz) hB5)))) | (apply ObsK.p (q := isW w4.heap.size _) (by rfl) st_isW; (intro wo hT; (repeat (first | (intro v hv; ((obtain ⟨A7, n7, c7, rfl, o7⟩ := hv))) | (intro _ _ k; try have hcv := cv k))); (have oc := (O4.below hT).cell; have sc := (S4.below hT).cell; have zo := z4.below hT; have hsz : w4.heap.size ≤ wo.heap.size := hT.size); refine Goes.mk ?_; go_simp; first | exact goes_v | exact goes_b (by assumption) | (refine goes_enter ?_; first | (go_at_call 19; ((with_reducible refine (put32_any DA dm dc s.dat 12 t.src sr0 sr1 wo zo).mono ?_); rintro e w5 ⟨A5, c5, rfl, ho5, hB5⟩); exact ret_p (own_isW ho5 hsz) hB5) | (go_at_call 19; ((with_reducible refine (put32_any A7 n7 c7 _ 16 t.dst ds0 ds1 wo o7.bs).mono ?_); rintro e w5 ⟨A5, c5, rfl, ho5, hB5⟩); exact ret_p (own_isW ho5 hsz) hB5)))))); refine ObsK.nil ?_; intro wz hBz; simp only [finOn, List.drop_succ_cons, List.drop_zero, List.drop_nil]
  rintro _ ⟨B2, m2, cap2, rfl, o2⟩ _ ⟨B3, m3, cap3, rfl, -⟩
  go_simp
  rw [HL2.out] at o2
  have um : dm = m2 := by rw [← o2.len]; exact hl2.out.symm
  subst um
  have rb5 := o2.bs
  have P5 := P4.below hBz
  have Pc5 := P5.cell
  clear Pc4
  have O5 := O4.below hBz
  have Oc5 := O5.cell
  clear Oc4
  have Z5 := Z4.below hBz
  have Zc5 := Z5.cell
  clear Zc4
  have G5 := G4.below hBz
  have Gc5 := G5.cell
  clear Gc4
  have S5 := S4.below hBz
  have Sc5 := S5.cell
  clear Sc4
  have I5 := I4.below hBz
  have Ic5 := I5.cell
  clear Ic4
  have x5 := x4.below hBz
  have y5 := y4.below hBz
  have z5 := z4.below hBz
  have R5 := below_then R4 hBz
  go_wp2_with (first
    | (go_at_call 20; ((with_reducible refine (cp0 B2 cap2 wz rb5).mono ?_); rintro e w6 ⟨B6, cap6, rfl, ho6, hB6⟩); have rd6 := ho6.bs; have P6 := P5.below hB6; have Pc6 := P6.cell; clear Pc5; have O6 := O5.below hB6; have Oc6 := O6.cell; clear Oc5; have Z6 := Z5.below hB6; have Zc6 := Z6.cell; clear Zc5; have G6 := G5.below hB6; have Gc6 := G6.cell; clear Gc5; have S6 := S5.below hB6; have Sc6 := S6.cell; clear Sc5; have I6 := I5.below hB6; have Ic6 := I6.cell; clear Ic5; have x6 := x5.below hB6; have y6 := y5.below hB6; have z6 := z5.below hB6; have rb6 := rb5.below hB6; have R6 := below_then R5 hB6; (obtain ⟨b6, o6, rfl⟩ := rd6.some_ (by omega)); have hcap6 := rd6.cap; have hcut6 : ∀ W, (Instr.slice 24 (.slice (some ⟨b6, o6, none⟩) dm cap6) none (some (.int .i64 (h : Int))) none).run Tryz.prog W = .ok (.slice (some ⟨b6, o6, none⟩) h cap6) W := (fun W => by rw [cut_h Tryz.underlying24 hi8 hs8 (some ⟨b6, o6, none⟩) dm cap6 .i64 (h : Int) (by omega) (by omega) W]; simp [Addr.add]))
    | (go_at_call 21; ((with_reducible refine (cs _ cap6 w6 (rd6.takeN hhM)).mono ?_); rintro e w7 ⟨rfl, hB7⟩); have P7 := P6.below hB7; have Pc7 := P7.cell; clear Pc6; have O7 := O6.below hB7; have Oc7 := O7.cell; clear Oc6; have Z7 := Z6.below hB7; have Zc7 := Z7.cell; clear Zc6; have G7 := G6.below hB7; have Gc7 := G7.cell; clear Gc6; have S7 := S6.below hB7; have Sc7 := S7.cell; clear Sc6; have I7 := I6.below hB7; have Ic7 := I7.cell; clear Ic6; have x7 := x6.below hB7; have y7 := y6.below hB7; have z7 := z6.below hB7; have rb7 := rb6.below hB7; have rd7 := rd6.below hB7; have R7 := below_then R6 hB7)
    | (go_at_call 20; ((with_reducible refine (cp1 _ cap6 w7 rd7).mono ?_); rintro e w8 ⟨B8, cap8, rfl, ho8, hB8⟩); have rf8 := ho8.bs; have P8 := P7.below hB8; have Pc8 := P8.cell; clear Pc7; have O8 := O7.below hB8; have Oc8 := O8.cell; clear Oc7; have Z8 := Z7.below hB8; have Zc8 := Z8.cell; clear Zc7; have G8 := G7.below hB8; have Gc8 := G8.cell; clear Gc7; have S8 := S7.below hB8; have Sc8 := S8.cell; clear Sc7; have I8 := I7.below hB8; have Ic8 := I8.cell; clear Ic7; have x8 := x7.below hB8; have y8 := y7.below hB8; have z8 := z7.below hB8; have rb8 := rb7.below hB8; have rd8 := rd7.below hB8; have R8 := below_then R7 hB8))
  obtain ⟨b8, o8, rfl⟩ := rf8.some_ (by omega)
  have hcap8 := rf8.cap
  have cut1 : ∀ W, (Instr.slice 24 (.slice (some ⟨b8, o8, none⟩) dm cap8) none (some (.int .i64 (h : Int))) (some (.int .i64 (h : Int)))).run Tryz.prog W = .ok (.slice (some ⟨b8, o8, none⟩) h h) W := fun W => by
    rw [cut_hm Tryz.underlying24 hi8 hs8 (some ⟨b8, o8, none⟩) dm cap8 .i64 .i64 (h : Int) (h : Int) (by omega) (by omega) (by omega) W]; simp [Addr.add]
  have fh : Bs w8 (some ⟨b8, o8, none⟩) h h (L4.take h) := (rf8.takeN hhM).recap (Nat.le_refl _) (by simp)
  obtain ⟨Am, nm, cm, eAm, enm, ecm, fm⟩ := rf8.cutE (lo := h) (hi := e) hhe heM
  have cut2 := fun W => cut_lh (P := Tryz.prog) Tryz.underlying24 hi8 hs8 (some ⟨b8, o8, none⟩) dm cap8 .i64 .i64 (h : Int) (e : Int) (by omega) (by omega) (by omega) W
  simp only [Int.toNat_natCast, eAm, enm, ecm] at cut2
  obtain rfl : nm = e2 := by rw [← enm]; exact hE2.out
  obtain ⟨Ae, ne, ce, eAe, ene, ece, fe⟩ := rf8.cutE (lo := e) (hi := dm) heM (Nat.le_refl _)
  have cut3 := fun W => cut_l (P := Tryz.prog) Tryz.underlying24 hi8 hs8 (some ⟨b8, o8, none⟩) dm cap8 .i64 (e : Int) (by omega) (by omega) W
  simp only [Int.toNat_natCast, eAe, ene, ece] at cut3
  have hsum : h + nm + ne = dm := by omega
  clear eAm enm ecm eAe ene ece
  refine region_txt 15 (by kernel_rfl) (by kernel_rfl) ?_; (iterate 15 (first | (apply ObsK.skip (by rfl)) | (apply ObsK.v (by rfl); (intro wo hT; (repeat (first | (intro v hv; ((obtain ⟨A7, n7, c7, rfl, o7⟩ := hv; have u7 : nm = n7 := (by rw [← o7.len]; exact HX.out.symm); subst u7))) | (intro _ _ k; try have hcv := cv k))); (have gc := (G8.below hT).cell; have oc := (O8.below hT).cell; have fho := fh.below hT; have fmo := fm.below hT; have hsz : w8.heap.size ≤ wo.heap.size := hT.size); refine Goes.mk ?_; first | ((have o7b := o7.bs; exact goes_appB _ _ rfl rfl fho rfl o7b (by omega) (by omega) hsz)) | (go_simp; first | exact goes_v | exact goes_b (by assumption) | fail | (refine goes_enter ?_; first | (go_at_call 22; ((with_reducible refine (cbd Am cm wo fmo).mono ?_); rintro e w5 ⟨⟨A5, c5, rfl, ho5, hB5⟩⟩); exact ret_p (own_isW ho5 hsz) hB5))))) | (apply ObsK.b (by rfl); (intro wo hT; (repeat (first | (intro v hv; ((obtain ⟨A7, n7, c7, rfl, o7⟩ := hv; have u7 : nm = n7 := (by rw [← o7.len]; exact HX.out.symm); subst u7))) | (intro _ _ k; try have hcv := cv k))); (have gc := (G8.below hT).cell; have oc := (O8.below hT).cell; have fho := fh.below hT; have fmo := fm.below hT; have hsz : w8.heap.size ≤ wo.heap.size := hT.size); refine Goes.mk ?_; first | ((have o7b := o7.bs; exact goes_appB _ _ rfl rfl fho rfl o7b (by omega) (by omega) hsz)) | (go_simp; first | exact goes_v | exact goes_b (by assumption) | fail | (refine goes_enter ?_; first | (go_at_call 22; ((with_reducible refine (cbd Am cm wo fmo).mono ?_); rintro e w5 ⟨⟨A5, c5, rfl, ho5, hB5⟩⟩); exact ret_p (own_isW ho5 hsz) hB5))))) | (apply ObsK.p (q := isW w8.heap.size _) (by rfl) st_isW; (intro wo hT; (repeat (first | (intro v hv; ((obtain ⟨A7, n7, c7, rfl, o7⟩ := hv; have u7 : nm = n7 := (by rw [← o7.len]; exact HX.out.symm); subst u7))) | (intro _ _ k; try have hcv := cv k))); (have gc := (G8.below hT).cell; have oc := (O8.below hT).cell; have fho := fh.below hT; have fmo := fm.below hT; have hsz : w8.heap.size ≤ wo.heap.size := hT.size); refine Goes.mk ?_; first | ((have o7b := o7.bs; exact goes_appB _ _ rfl rfl fho rfl o7b (by omega) (by omega) hsz)) | (go_simp; first | exact goes_v | exact goes_b (by assumption) | fail | (refine goes_enter ?_; first | (go_at_call 22; ((with_reducible refine (cbd Am cm wo fmo).mono ?_); rintro e w5 ⟨⟨A5, c5, rfl, ho5, hB5⟩⟩); exact ret_p (own_isW ho5 hsz) hB5))))))); refine ObsK.nil ?_; intro wz hBz; simp only [finOn, List.drop_succ_cons, List.drop_zero, List.drop_nil]
  rintro _ ⟨A83, n83, c83, rfl, o83⟩ _ ⟨A82, n82, c82, rfl, -⟩
  go_simp
  have u83 : h + nm = n83 := by
    have h1 := o83.len
    have h2 := HX.out
    have h3 := fh.len
    rw [List.length_append] at h1
    omega
  subst u83
  have feZ := fe.below hBz
  have gS := S4.lt
  have gSw : w.heap.size ≤ kS3 := by have h1 := R2.size; have h2 := hB3.size; omega
  have gk := Z1.lt
  have gkS : k < kS3 := by have h1 := P2.lt; have h2 := hB3.size; omega
  have gkZ : k + 1 + 1 < kS3 := by have h1 := Z2.lt; have h2 := hB3.size; omega
  have gS8 : kS3 < w8.heap.size := S8.lt
  have hDM : ∀ n30 : Nat, ((L4.take h ++ X) ++ (L4.take dm).drop e).length = n30 → dm = n30 := fun n30 hn => by rw [← hn]; exact HD.out.symm
  clear cut1 cut2 cut3 cp0 cp1 cs cbd cq ci cqt
  go_wp2_with (first
    | (at_builtin; refine wpList_append_bs (w0 := w8) _ rfl _ _ _ rfl w8.heap.size 5 Tryz.underlying24 info_u8 A83 (h + nm) c83 (L4.take h ++ X) rfl o83 Ae ne ce ((L4.take dm).drop e) rfl feZ hBz (by omega) (by first | exact Nat.le_refl _ | exact Below.size hBz | omega | (simp <;> omega)) ?_; intro A30 n30 c30 w30 O30 hB30 _ hz30; have u30 := hDM n30 O30.len; subst u30; have S30 := S8.below hB30; have Sc30 := S30.cell; have P30 := P8.below hB30; have Z30 := Z8.below hB30; (obtain ⟨w31, hw31, S31⟩ : ∃ wf, w30.setCell ⟨kS3, 3, none⟩ (.slice A30 dm c30) = wf ∧ Sto w30 kS3 wf #[.int .u8 s.ty, .int .u8 s.code, .int .u32 s.rest, .slice A30 dm c30] 42 := ⟨_, rfl, by have h := (Sto.nil S30).set 3 (.slice A30 dm c30); simp only [List.setIfInBounds_toArray, List.set_cons_zero, List.set_cons_succ] at h; exact h⟩); have P31 := S31.other (by omega) P30; have Pc31 := P31.cell; (obtain ⟨w32, hw32, P32⟩ : ∃ wf, (w31.setCell ⟨k, 5, none⟩ (.int .u32 sa)).setCell ⟨k, 6, none⟩ (.int .u32 sb) = wf ∧ Sto w31 k wf #[.int .u8 p.tos, .int .u16 p.id, .bool p.keep, .int .u8 p.ttl, .int .u8 p.proto, .int .u32 sa, .int .u32 sb, .slice A1 n1 c1, .slice A2 n2 c2] 26 := ⟨_, rfl, by have h := ((Sto.nil P31).set 5 (.int .u32 sa)).set 6 (.int .u32 sb); simp only [List.setIfInBounds_toArray, List.set_cons_zero, List.set_cons_succ] at h; exact h⟩); have Pc32 := P32.blk.cell; have S32 := P32.other (by omega) S31.blk; have Sc32 := S32.cell; have Z32 := P32.other (by omega) (S31.other (by omega) Z30); have Zc32 := Z32.cell; have R32 : Below w.heap.size w w32 := P32.bel (S31.bel (below_then R8 hB30) gSw) (by omega); have D32 := (P32.own (S31.own O30 (fun a h => by have := O30.ge a h; omega)) (fun a h => by have := O30.ge a h; omega)).bs; have x32 := k1.below R32; clear hDM hei hhi hsum)
    | (go_at_call 23; ((with_reducible refine (cb A30 dm c30 w32 x32 D32 (by omega)).mono ?_); rintro e w33 ⟨⟨E1, e1', f1', E2, e2', f2', rfl, r1, r2, hB33⟩⟩); have Z33 := Z32.below hB33; have Zc33 := Z33.cell; have R33 := below_then R32 hB33))
  have zl := Z32.lt
  have sz := R32.size
  obtain ⟨wf, hwf, Sf⟩ := store9 Z33 (.int .u8 Q.tos) (.int .u16 Q.id) (.bool Q.keep) (.int .u8 Q.ttl) (.int .u8 Q.proto) (.int .u32 Q.src) (.int .u32 Q.dst) (.slice E1 e1' f1') (.slice E2 e2' f2')
  rw [hwf]
  have pf := Sf.blk.cell
  exact bodyPost_ret (v := .tuple #[(.agg #[.int .u8 (Q).tos, .int .u16 (Q).id, .bool (Q).keep, .int .u8 (Q).ttl, .int .u8 (Q).proto, .int .u32 (Q).src, .int .u32 (Q).dst, .slice E1 e1' f1', .slice E2 e2' f2']), .int .i64 E]) (by simp [results, Tryz.results5, go_sem, pf]) rfl ⟨⟨E1, e1', f1', E2, e2', f2', rfl, (Sf.own r1 (fun a h => by have := r1.ge a h; omega)).mono (by omega), (Sf.own r2 (fun a h => by have := r2.ge a h; omega)).mono (by omega), Sf.bel R33 (by omega)⟩⟩
theorem rq_no1 (p : Pkt) (A1 : Option Addr) (n1 c1 : Nat) (A2 : Option Addr) (n2 c2 : Nat) (w : World) (k2 : Bs w A2 n2 c2 p.dat) (sa sb : Int) (t : Tup) (U : Tup) (E : Int)
    (cq : ∀ W, Bs W A2 n2 c2 p.dat → Calls Tryz.prog 16 #[(.agg #[.int .u8 (p).tos, .int .u16 (p).id, .bool (p).keep, .int .u8 (p).ttl, .int .u8 (p).proto, .int .u32 (p).src, .int .u32 (p).dst, .slice A1 n1 c1, .slice A2 n2 c2])] W (TtPost W U E)) (h0 : E ≠ 0) :
    Calls Tryz.prog 5 #[(.agg #[.int .u8 (p).tos, .int .u16 (p).id, .bool (p).keep, .int .u8 (p).ttl, .int .u8 (p).proto, .int .u32 (p).src, .int .u32 (p).dst, .slice A1 n1 c1, .slice A2 n2 c2]), .int .u32 sa, .int .u32 sb, (.agg #[.int .u8 (t).proto, .int .u32 (t).src, .int .u32 (t).dst, .int .u16 (t).sp, .int .u16 (t).dp])] w (WiPost w zP E) := by
  have h0b : (E != 0) = true := by simpa using h0
  clear h0
  obtain ⟨k, hk, w1, hw1, P1, O1, Z1, R1⟩ := nwI3 w #[.int .u8 (p).tos, .int .u16 (p).id, .bool (p).keep, .int .u8 (p).ttl, .int .u8 (p).proto, .int .u32 (p).src, .int .u32 (p).dst, .slice A1 n1 c1, .slice A2 n2 c2] 26 #[.int .u8 (t).proto, .int .u32 (t).src, .int .u32 (t).dst, .int .u16 (t).sp, .int .u16 (t).dp] 29 #[.int .u8 0, .int .u16 0, .bool false, .int .u8 0, .int .u8 0, .int .u32 0, .int .u32 0, .slice none 0 0, .slice none 0 0] 26
  have Pc1 := P1.cell
  have Oc1 := O1.cell
  have Zc1 := Z1.cell
  have Pl1 := P1.lt
  have Ol1 := O1.lt
  have Zl1 := Z1.lt
  have y1 := (k2).below R1
  go_enter Tryz.func5, Tryz.ntmps5
  go_wp2_with (go_at_call 16; ((with_reducible refine (cq w1 y1).mono ?_); rintro e u2 ⟨⟨rfl, hB2⟩⟩); (obtain ⟨w2, hw2, V2, kG2, hkG2, G2⟩ := nw1 u2 #[.int .u8 (U).proto, .int .u32 (U).src, .int .u32 (U).dst, .int .u16 (U).sp, .int .u16 (U).dp] 29); have Gc2 := G2.cell; have T2 := below_then hB2 V2; have P2 := P1.below T2; have Pc2 := P2.cell; clear Pc1; have O2 := O1.below T2; have Oc2 := O2.cell; clear Oc1; have Z2 := Z1.below T2; have Zc2 := Z2.cell; clear Zc1; have y2 := y1.below T2; have R2 := below_then R1 T2)
  obtain ⟨wf, hwf, Sf⟩ := store9 Z2 (.int .u8 0) (.int .u16 0) (.bool false) (.int .u8 0) (.int .u8 0) (.int .u32 0) (.int .u32 0) (.slice none 0 0) (.slice none 0 0)
  rw [hwf]
  have pf := Sf.blk.cell
  exact bodyPost_ret (v := .tuple #[.agg #[.int .u8 0, .int .u16 0, .bool false, .int .u8 0, .int .u8 0, .int .u32 0, .int .u32 0, .slice none 0 0, .slice none 0 0], .int .i64 E]) (by simp [results, Tryz.results5, go_sem, pf]) rfl (wiPost_no (Sf.bel R2 (by omega)))
theorem rq_no2 (p : Pkt) (A1 : Option Addr) (n1 c1 : Nat) (A2 : Option Addr) (n2 c2 : Nat) (w : World) (k2 : Bs w A2 n2 c2 p.dat) (sa sb : Int) (t : Tup) (U : Tup)
    (cq : ∀ W, Bs W A2 n2 c2 p.dat → Calls Tryz.prog 16 #[(.agg #[.int .u8 (p).tos, .int .u16 (p).id, .bool (p).keep, .int .u8 (p).ttl, .int .u8 (p).proto, .int .u32 (p).src, .int .u32 (p).dst, .slice A1 n1 c1, .slice A2 n2 c2])] W (TtPost W U 0)) (hne : (U.proto != t.proto) = true) :
    Calls Tryz.prog 5 #[(.agg #[.int .u8 (p).tos, .int .u16 (p).id, .bool (p).keep, .int .u8 (p).ttl, .int .u8 (p).proto, .int .u32 (p).src, .int .u32 (p).dst, .slice A1 n1 c1, .slice A2 n2 c2]), .int .u32 sa, .int .u32 sb, (.agg #[.int .u8 (t).proto, .int .u32 (t).src, .int .u32 (t).dst, .int .u16 (t).sp, .int .u16 (t).dp])] w (WiPost w zP 12) := by
  obtain ⟨k, hk, w1, hw1, P1, O1, Z1, R1⟩ := nwI3 w #[.int .u8 (p).tos, .int .u16 (p).id, .bool (p).keep, .int .u8 (p).ttl, .int .u8 (p).proto, .int .u32 (p).src, .int .u32 (p).dst, .slice A1 n1 c1, .slice A2 n2 c2] 26 #[.int .u8 (t).proto, .int .u32 (t).src, .int .u32 (t).dst, .int .u16 (t).sp, .int .u16 (t).dp] 29 #[.int .u8 0, .int .u16 0, .bool false, .int .u8 0, .int .u8 0, .int .u32 0, .int .u32 0, .slice none 0 0, .slice none 0 0] 26
  have Pc1 := P1.cell
  have Oc1 := O1.cell
  have Zc1 := Z1.cell
  have Pl1 := P1.lt
  have Ol1 := O1.lt
  have Zl1 := Z1.lt
  have y1 := (k2).below R1
  go_enter Tryz.func5, Tryz.ntmps5
  go_wp2_with (go_at_call 16; ((with_reducible refine (cq w1 y1).mono ?_); rintro e u2 ⟨⟨rfl, hB2⟩⟩); (obtain ⟨w2, hw2, V2, kG2, hkG2, G2⟩ := nw1 u2 #[.int .u8 (U).proto, .int .u32 (U).src, .int .u32 (U).dst, .int .u16 (U).sp, .int .u16 (U).dp] 29); have Gc2 := G2.cell; have T2 := below_then hB2 V2; have P2 := P1.below T2; have Pc2 := P2.cell; clear Pc1; have O2 := O1.below T2; have Oc2 := O2.cell; clear Oc1; have Z2 := Z1.below T2; have Zc2 := Z2.cell; clear Zc1; have y2 := y1.below T2; have R2 := below_then R1 T2)
  obtain ⟨wf, hwf, Sf⟩ := store9 Z2 (.int .u8 0) (.int .u16 0) (.bool false) (.int .u8 0) (.int .u8 0) (.int .u32 0) (.int .u32 0) (.slice none 0 0) (.slice none 0 0)
  rw [hwf]
  have pf := Sf.blk.cell
  exact bodyPost_ret (v := .tuple #[.agg #[.int .u8 0, .int .u16 0, .bool false, .int .u8 0, .int .u8 0, .int .u32 0, .int .u32 0, .slice none 0 0, .slice none 0 0], .int .i64 12]) (by simp [results, Tryz.results5, go_sem, pf]) rfl (wiPost_no (Sf.bel R2 (by omega)))
def rqH (p : Pkt) : Nat := 20 + (rdPk true (icM p).dat).opt.length
def rqN (p : Pkt) : Nat := rqH p + (rdPk true (icM p).dat).dat.length
def rqD (p : Pkt) (t : Tup) : List UInt8 := rqDat (icM p).dat (rqH p) (rqN p) (quT p) t
def rqM (p : Pkt) (t : Tup) : Msg := { icM p with dat := rqD p t }
def rqQ (p : Pkt) (sa sb : Int) : Pkt := { p with src := sa, dst := sb }
def rqE (p : Pkt) (sa sb : Int) (t : Tup) : Int := if quE p ≠ 0 then quE p else if (quT p).proto ≠ t.proto then 12 else wiE (rqQ p sa sb) (8 + (rqM p t).dat.length)
def rqP (p : Pkt) (sa sb : Int) (t : Tup) : Pkt := if quE p ≠ 0 then zP else if (quT p).proto ≠ t.proto then zP else withP (rqQ p sa sb) 1 (mS (rqM p t))
theorem rqM_ok (p : Pkt) (t : Tup) : (rqM p t).Ok := by
  obtain ⟨a, b, c⟩ := icM_ok p
  exact ⟨a, b, c⟩
theorem quE_zero {p : Pkt} (h : quE p = 0) : icE p = 0 ∧ isErrM (icM p) = true ∧ rdE true (icM p).dat = 0 ∧ inE (rdPk true (icM p).dat) = 0 := by
  rcases quE_ways p with ⟨e, h0⟩ | ⟨e, h0, h1⟩ | ⟨h0, h1, h2, e⟩ | ⟨h0, h1, h2, e⟩
  · rw [e] at h; exact absurd h h0
  · rw [e] at h; cases h
  · rw [e] at h; exact absurd h h2
  · exact ⟨h0, h1, h2, by rw [← e]; exact h⟩
theorem rq_bounds {l : List UInt8} (h : rdE true l = 0) : 20 + (rdPk true l).opt.length = (hdOf l).toNat ∧ 20 + (rdPk true l).opt.length + (rdPk true l).dat.length = (alOf l).toNat ∧ 20 ≤ hdOf l ∧ hdOf l ≤ alOf l ∧ alOf l ≤ l.length ∧ hdOf l ≤ 60 := by
  have hr := h
  unfold rdE at h
  split at h
  · rename_i h1; exact absurd h h1
  rename_i h1
  have h1' : lenE true l = 0 := by simpa using h1
  obtain ⟨f1, f2, f3, f4, f5, f6, f7, f8, f9⟩ := len_facts h1'
  unfold rdPk
  rw [if_pos hr]
  unfold rdP
  simp only [List.length_drop, List.length_take]
  refine ⟨by omega, by omega, f3, f5, f6, f7⟩
theorem inT_ok {q : Pkt} (hq : q.Ok) : (inT q).Ok := by
  have hz : zT.Ok := ⟨by decide, by decide, by decide, by decide, by decide⟩
  have b : ∀ x, 0 ≤ get16 q.dat x ∧ get16 q.dat x ≤ 65535 := fun x => ⟨get16_lo _ _, get16_hi _ _⟩
  have z : (0 : Int) ≤ 0 ∧ (0 : Int) ≤ 65535 := by omega
  unfold inT tuP
  split
  · exact hz
  · refine ⟨hq.4, hq.5, hq.6, ?_, ?_⟩
    · show 0 ≤ inA q ∧ inA q ≤ 65535
      unfold inA
      split
      · exact b _
      split
      · exact b _
      split
      · exact b _
      · exact z
    · show 0 ≤ inB q ∧ inB q ≤ 65535
      unfold inB
      split
      · exact b _
      split
      · exact b _
      split
      · exact b _
      · exact b _
theorem quT_ok (p : Pkt) : (quT p).Ok := by
  unfold quT
  split
  · exact inT_ok (rdPk_ok _ _)
  · exact ⟨by decide, by decide, by decide, by decide, by decide⟩
theorem requote_any (p : Pkt) (A1 : Option Addr) (n1 c1 : Nat) (A2 : Option Addr) (n2 c2 : Nat) (w : World) (k1 : Bs w A1 n1 c1 p.opt) (k2 : Bs w A2 n2 c2 p.dat) (h7 : n2 ≤ 140737488351232) (sa sb : Int) (t : Tup) (ht : t.Ok) :
    Calls Tryz.prog 5 #[(.agg #[.int .u8 (p).tos, .int .u16 (p).id, .bool (p).keep, .int .u8 (p).ttl, .int .u8 (p).proto, .int .u32 (p).src, .int .u32 (p).dst, .slice A1 n1 c1, .slice A2 n2 c2]), .int .u32 sa, .int .u32 sb, (.agg #[.int .u8 (t).proto, .int .u32 (t).src, .int .u32 (t).dst, .int .u16 (t).sp, .int .u16 (t).dp])] w (WiPost w (rqP p sa sb t) (rqE p sa sb t)) := by
  have cq := fun W k => quo_any p A1 n1 c1 A2 n2 c2 W k
  unfold rqP rqE
  by_cases h0 : quE p = 0
  case neg =>
    rw [if_pos h0, if_pos h0]
    exact rq_no1 p A1 n1 c1 A2 n2 c2 w k2 sa sb t _ _ cq h0
  have n0 : ¬ (quE p ≠ 0) := by simpa using h0
  rw [if_neg n0, if_neg n0]
  rw [h0] at cq
  by_cases h1 : (quT p).proto = t.proto
  case neg =>
    rw [if_pos h1, if_pos h1]
    exact rq_no2 p A1 n1 c1 A2 n2 c2 w k2 sa sb t _ cq (by simpa using h1)
  have n1' : ¬ ((quT p).proto ≠ t.proto) := by simpa using h1
  rw [if_neg n1', if_neg n1']
  obtain ⟨e1, e2, e3, e4⟩ := quE_zero h0
  have ci := fun W k => icmp_any p A1 n1 c1 A2 n2 c2 W k
  rw [e1] at ci
  have hl : (icM p).dat.length ≤ 140737488351232 := by
    have := k2.len
    unfold icM
    rw [if_pos e1]
    simp only [List.length_drop]
    omega
  obtain ⟨b1, b2, b3, b4, b5, b6⟩ := rq_bounds e3
  have cqt : ∀ B b1 b2 W, Bs W B b1 b2 (icM p).dat → _ := fun B b1 b2 W k => ipQuote_v (l := (icM p).dat) rfl rfl B b1 b2 W k
  rw [e3] at cqt
  refine rq_ok p A1 n1 c1 A2 n2 c2 w k1 k2 sa sb t ht (quT p) (quT_ok p) cq (by simpa using h1) (icM p) ci (rdPk true (icM p).dat) cqt (icM p).dat.length (rqH p) (rqN p) rfl _ rfl rfl rfl ?_ (rd_8 e3) hl _ _ ?_
  · unfold rqN rqH; omega
  · intro B b1 b2 W kk kd hb
    exact bicmp_any (rqQ p sa sb) A1 n1 c1 A2 n2 c2 (rqM p t) (rqM_ok p t) B b1 b2 W kk kd hb
set_option maxHeartbeats 4000000
theorem get16_congr {l m : List UInt8} {k : Nat} (h : k + 2 ≤ l.length) (h' : k + 2 ≤ m.length) (e0 : bt l k = bt m k) (e1 : bt l (k + 1) = bt m (k + 1)) : get16 l k = get16 m k := by
  rw [get16_in (by omega) (by omega), get16_in (by omega) (by omega), Int.toNat_natCast, e0, e1]
theorem get32_congr {l m : List UInt8} {k : Nat} (h : k + 4 ≤ l.length) (h' : k + 4 ≤ m.length) (e0 : bt l k = bt m k) (e1 : bt l (k + 1) = bt m (k + 1)) (e2 : bt l (k + 2) = bt m (k + 2)) (e3 : bt l (k + 3) = bt m (k + 3)) : get32 l k = get32 m k := by
  rw [get32_in (by omega) (by omega), get32_in (by omega) (by omega), get16_congr (by omega) (by omega) e0 e1, show ((k : Int) + 2) = ((k + 2 : Nat) : Int) from by omega, get16_congr (by omega) (by omega) e2 e3]
theorem drop_put16 {l : List UInt8} {i n : Nat} {v : Int} (h : i + 2 ≤ l.length) (hn : i + 2 ≤ n) : (put16 l i v).drop n = l.drop n := by
  rw [put16_eq h, List.drop_set_of_lt (by omega), List.drop_set_of_lt (by omega)]
theorem drop_put32 {l : List UInt8} {i n : Nat} {v : Int} (h : i + 4 ≤ l.length) (hn : i + 4 ≤ n) : (put32 l i v).drop n = l.drop n := by
  rw [put32_two h, drop_put16 (by rw [put16_length]; omega) (by omega), drop_put16 (by omega) (by omega)]
structure L4Ok (M : List UInt8) (h : Nat) (t : Tup) : Prop where
  far : ∀ j, j < 10 ∨ 20 ≤ j → bt (rqL4 M h t) j = bt M j
  src : get32 (rqL4 M h t) ((12 : Nat) : Int) = t.src
  dst : get32 (rqL4 M h t) ((16 : Nat) : Int) = t.dst
  sum : csum ((rqL4 M h t).take h) = 0
  drop : (rqL4 M h t).drop 20 = M.drop 20
theorem l4_ok {M : List UInt8} {h : Nat} {t : Tup} (ht : t.Ok) (h1 : 20 ≤ h) (h2 : h ≤ M.length) : L4Ok M h t := by
  have e0 : rqL2 M t = put32 (put32 M ((12 : Nat) : Int) t.src) ((16 : Nat) : Int) t.dst := rfl
  have la : (put32 M ((12 : Nat) : Int) t.src).length = M.length := put32_length _ _ _
  have l2 : (rqL2 M t).length = M.length := by rw [e0, put32_length, put32_length]
  have e1 : rqL4 M h t = put16 (put16 (rqL2 M t) ((10 : Nat) : Int) 0) ((10 : Nat) : Int) (csum ((put16 (rqL2 M t) ((10 : Nat) : Int) 0).take h)) := rfl
  obtain ⟨x, hx⟩ : ∃ x, csum ((put16 (rqL2 M t) ((10 : Nat) : Int) 0).take h) = x := ⟨_, rfl⟩
  have l3 : (put16 (rqL2 M t) ((10 : Nat) : Int) 0).length = M.length := by rw [put16_length, l2]
  rw [hx] at e1
  have b3 : ∀ j, j < 10 ∨ 12 ≤ j → bt (rqL4 M h t) j = bt (rqL2 M t) j := fun j hj => by
    rw [e1, bt_put16 (by rw [l3]; omega), if_neg (by omega), if_neg (by omega), bt_put16 (by rw [l2]; omega), if_neg (by omega), if_neg (by omega)]
  have b2 : ∀ j, j < 16 ∨ 20 ≤ j → bt (rqL2 M t) j = bt (put32 M ((12 : Nat) : Int) t.src) j := fun j hj => by
    rw [e0, bt_put32 (by rw [la]; omega) j (by omega)]
  have l4 : (rqL4 M h t).length = M.length := rqL4_len M h t
  refine ⟨fun j hj => ?_, ?_, ?_, ?_, ?_⟩
  · rw [b3 j (by omega), b2 j (by omega), bt_put32 (by omega) j (by omega)]
  · rw [get32_congr (m := put32 M ((12 : Nat) : Int) t.src) (by rw [l4]; omega) (by rw [la]; omega) (by rw [b3 _ (by omega), b2 _ (by omega)]) (by rw [b3 _ (by omega), b2 _ (by omega)]) (by rw [b3 _ (by omega), b2 _ (by omega)]) (by rw [b3 _ (by omega), b2 _ (by omega)])]
    exact get32_put32 ht.src.1 ht.src.2 (by omega)
  · rw [get32_congr (m := rqL2 M t) (by rw [l4]; omega) (by rw [l2]; omega) (by rw [b3 _ (by omega)]) (by rw [b3 _ (by omega)]) (by rw [b3 _ (by omega)]) (by rw [b3 _ (by omega)]), e0]
    exact get32_put32 ht.dst.1 ht.dst.2 (by rw [la]; omega)
  · have e2 : (rqL4 M h t).take h = put16 ((put16 (rqL2 M t) ((10 : Nat) : Int) 0).take h) ((2 * 5 : Nat) : Int) x := by
      rw [e1]; exact put16_take (i := 10) (by omega) (by rw [l3]; omega)
    rw [e2, ← hx]
    have lz : ((put16 (rqL2 M t) ((10 : Nat) : Int) 0).take h).length = h := by rw [List.length_take, l3]; omega
    refine good_put (by rw [lz]; omega) ?_
    have e3 : (put16 (rqL2 M t) ((10 : Nat) : Int) 0).take h = put16 ((rqL2 M t).take h) ((2 * 5 : Nat) : Int) 0 := put16_take (i := 10) (by omega) (by rw [l2]; omega)
    rw [e3]
    exact wd_put16_same (by omega) (by omega) (by rw [List.length_take, l2]; omega)
  · rw [e1, drop_put16 (by rw [l3]; omega) (by omega), drop_put16 (by rw [l2]; omega) (by omega), e0, drop_put32 (by rw [la]; omega) (by omega), drop_put32 (by omega) (by omega)]
theorem body_told {q : Pkt} (h8 : 8 ≤ q.dat.length) (hE : inE q = 0) (u t : Tup) (ht : t.Ok) (hpr : q.proto = t.proto) :
    inE { q with src := t.src, dst := t.dst, dat := bodyB q.dat u t } = 0 ∧ inT { q with src := t.src, dst := t.dst, dat := bodyB q.dat u t } = toldT t := by
  obtain ⟨l, hl⟩ : ∃ l, q.dat = l := ⟨_, rfl⟩
  rw [hl] at h8
  rw [hl]
  obtain ⟨Q, hQ⟩ : ∃ Q : Pkt, { q with src := t.src, dst := t.dst, dat := bodyB l u t } = Q := ⟨_, rfl⟩
  have qp : Q.proto = t.proto := by rw [← hQ]; exact hpr
  have qs : Q.src = t.src := by rw [← hQ]
  have qd : Q.dst = t.dst := by rw [← hQ]
  have qb : Q.dat = bodyB l u t := by rw [← hQ]
  rw [hQ]
  have e0 : ∀ (m : List UInt8) v, put16 m 0 v = put16 m ((0 : Nat) : Int) v := fun _ _ => rfl
  have e2 : ∀ (m : List UInt8) v, put16 m 2 v = put16 m ((2 : Nat) : Int) v := fun _ _ => rfl
  have e4 : ∀ (m : List UInt8) v, put16 m 4 v = put16 m ((4 : Nat) : Int) v := fun _ _ => rfl
  have e6 : ∀ (m : List UInt8) v, put16 m 6 v = put16 m ((6 : Nat) : Int) v := fun _ _ => rfl
  have e16 : ∀ (m : List UInt8) v, put16 m 16 v = put16 m ((16 : Nat) : Int) v := fun _ _ => rfl
  have g0 : ∀ (m : List UInt8), get16 m 0 = get16 m ((0 : Nat) : Int) := fun _ => rfl
  have g2 : ∀ (m : List UInt8), get16 m 2 = get16 m ((2 : Nat) : Int) := fun _ => rfl
  have g4 : ∀ (m : List UInt8), get16 m 4 = get16 m ((4 : Nat) : Int) := fun _ => rfl
  have g6 : ∀ (m : List UInt8), get16 m 6 = get16 m ((6 : Nat) : Int) := fun _ => rfl
  have two : ∀ x : List UInt8, x = put16 (put16 l 0 t.sp) 2 t.dp → x.length = l.length ∧ get16 x 0 = t.sp ∧ get16 x 2 = t.dp := fun x hx => by
    have lx : x.length = l.length := by rw [hx]; simp [put16_length]
    refine ⟨lx, ?_, ?_⟩
    · rw [hx, g0, e2, get16_put16_far (by rw [put16_length]; omega) (by rw [put16_length]; omega) (by omega), e0, get16_put16 ht.sp.1 ht.sp.2 (by omega)]
    · rw [hx, g2, e2, get16_put16 ht.dp.1 ht.dp.2 (by rw [put16_length]; omega)]
  obtain ⟨L1, hL1⟩ : ∃ L, put16 (put16 l 0 t.sp) 2 t.dp = L := ⟨_, rfl⟩
  obtain ⟨t1, t2, t3⟩ := two L1 hL1.symm
  have far : ∀ (i : Nat) v, 4 ≤ i → i + 2 ≤ L1.length → get16 (put16 L1 i v) 0 = t.sp ∧ get16 (put16 L1 i v) 2 = t.dp := fun i v hi hil => by
    rw [g0, g2, get16_put16_far hil (by omega) (by omega), get16_put16_far hil (by omega) (by omega)]
    exact ⟨t2, t3⟩
  unfold inT
  rcases inE_ways q with ⟨c, -⟩ | ⟨c, -⟩ | ⟨c, ce, -⟩ | ⟨c, ce, -⟩ | ⟨-, -, -, -, ce⟩
  · have c' : t.proto = 6 := hpr.symm.trans c
    have hq : Q.proto = 6 := qp.trans c'
    have hin : inE Q = 0 := by unfold inE; rw [if_pos hq]
    refine ⟨hin, ?_⟩
    have hg : get16 Q.dat 0 = t.sp ∧ get16 Q.dat 2 = t.dp := by
      rw [qb]
      unfold bodyB
      rw [if_pos c', hL1]
      split
      · rw [e16]; exact far 16 _ (by omega) (by omega)
      · exact ⟨t2, t3⟩
    rw [hin, tuP, if_neg (by decide), qp, qs, qd]
    unfold inA inB toldT
    rw [if_pos hq, if_pos hq, hg.1, hg.2, if_neg (by omega), if_neg (by omega)]
  · have c' : t.proto = 17 := hpr.symm.trans c
    have hq : Q.proto = 17 := qp.trans c'
    have hin : inE Q = 0 := by unfold inE; rw [if_neg (by omega), if_pos hq]
    refine ⟨hin, ?_⟩
    have hg : get16 Q.dat 0 = t.sp ∧ get16 Q.dat 2 = t.dp := by
      rw [qb]
      unfold bodyB
      rw [if_neg (by omega), if_pos c', hL1]
      split
      · exact ⟨t2, t3⟩
      split
      · rw [e6, g0, g2, get16_put16_far (by rw [e6, put16_length]; omega) (by rw [e6, put16_length]; omega) (by omega), get16_put16_far (by rw [e6, put16_length]; omega) (by rw [e6, put16_length]; omega) (by omega), e6]
        exact far 6 _ (by omega) (by omega)
      · rw [e6]; exact far 6 _ (by omega) (by omega)
    rw [hin, tuP, if_neg (by decide), qp, qs, qd]
    unfold inA inB toldT
    rw [if_neg (by omega), if_pos hq, if_neg (by omega), if_pos hq, hg.1, hg.2, if_neg (by omega), if_neg (by omega)]
  · have c' : t.proto = 1 := hpr.symm.trans c
    have hq : Q.proto = 1 := qp.trans c'
    have hb : bodyB l u t = put16 (put16 l ((4 : Nat) : Int) t.sp) ((2 : Nat) : Int) (patK (get16 (put16 l 4 t.sp) 2) (six u.sp 0 0 0 0 0) (six t.sp 0 0 0 0 0) 6) := by unfold bodyB; rw [if_neg (by omega), if_neg (by omega), if_pos c']; rfl
    have ls : (put16 l ((4 : Nat) : Int) t.sp).length = l.length := put16_length _ _ _
    have hech : qEch Q.dat = true := by
      have hx : qEch l = true := by
        rw [ce] at hE
        rw [hl] at hE
        cases hx : qEch l
        · rw [hx] at hE; cases hE
        · rfl
      rw [qb, hb]
      unfold qEch at hx ⊢
      rw [bt_put16 (by rw [ls]; omega), if_neg (by omega), if_neg (by omega), bt_put16 (by omega), if_neg (by omega), if_neg (by omega), bt_put16 (by rw [ls]; omega), if_neg (by omega), if_neg (by omega), bt_put16 (by omega), if_neg (by omega), if_neg (by omega)]
      exact hx
    have hin : inE Q = 0 := by unfold inE; rw [if_neg (by omega), if_neg (by omega), if_pos hq, hech]; simp
    refine ⟨hin, ?_⟩
    have hg : get16 Q.dat 4 = t.sp := by
      rw [qb, hb, g4, get16_put16_far (by rw [ls]; omega) (by rw [ls]; omega) (by omega), get16_put16 ht.sp.1 ht.sp.2 (by omega)]
    rw [hin, tuP, if_neg (by decide), qp, qs, qd]
    unfold inA inB toldT
    rw [if_neg (by omega), if_neg (by omega), if_pos hq, if_neg (by omega), if_neg (by omega), if_pos hq, hg, if_pos c']
  · have c' : t.proto = 47 := hpr.symm.trans c
    have hq : Q.proto = 47 := qp.trans c'
    have hb : bodyB l u t = put16 l ((6 : Nat) : Int) t.dp := by unfold bodyB; rw [if_neg (by omega), if_neg (by omega), if_neg (by omega)]; rfl
    have hech : begB Q.dat = true := by
      have hx : begB l = true := by
        rw [ce] at hE
        rw [hl] at hE
        cases hx : begB l
        · rw [hx] at hE; cases hE
        · rfl
      rw [qb, hb]
      unfold begB at hx ⊢
      rw [bt_put16 (by omega), if_neg (by omega), if_neg (by omega), bt_put16 (by omega), if_neg (by omega), if_neg (by omega), bt_put16 (by omega), if_neg (by omega), if_neg (by omega), bt_put16 (by omega), if_neg (by omega), if_neg (by omega)]
      exact hx
    have hin : inE Q = 0 := by unfold inE; rw [if_neg (by omega), if_neg (by omega), if_neg (by omega), if_pos hq, hech]; simp
    refine ⟨hin, ?_⟩
    have hg : get16 Q.dat 6 = t.dp := by rw [qb, hb, g6, get16_put16 ht.dp.1 ht.dp.2 (by omega)]
    rw [hin, tuP, if_neg (by decide), qp, qs, qd]
    unfold inA inB toldT
    rw [if_neg (by omega), if_neg (by omega), if_neg (by omega), if_neg (by omega), if_neg (by omega), if_neg (by omega), hg, if_neg (by omega), if_pos c']
  · rw [ce] at hE; cases hE
theorem dat_told {M : List UInt8} (hE : rdE true M = 0) (u t : Tup) (ht : t.Ok) (D : List UInt8) (hD : D = rqDat M (20 + (rdPk true M).opt.length) (20 + (rdPk true M).opt.length + (rdPk true M).dat.length) u t) :
    D.length = M.length ∧ rdE true D = 0 ∧ rdPk true D = { rdPk true M with src := t.src, dst := t.dst, dat := bodyB (rdPk true M).dat u t } := by
  obtain ⟨b1, b2, b3, b4, b5, b6⟩ := rq_bounds hE
  have hr : rdPk true M = rdP M := by unfold rdPk; rw [if_pos hE]
  obtain ⟨h, hh⟩ : ∃ h, 20 + (rdPk true M).opt.length = h := ⟨_, rfl⟩
  obtain ⟨e, he⟩ : ∃ e, h + (rdPk true M).dat.length = e := ⟨_, rfl⟩
  rw [hh] at b1 b2 hD
  rw [he] at b2 hD
  have h20 : 20 ≤ h := by omega
  have hhM : h ≤ M.length := by omega
  have hhe : h ≤ e := by omega
  have heM : e ≤ M.length := by omega
  obtain ⟨o1, o2, o3, o4, o5⟩ := l4_ok (M := M) (h := h) ht h20 hhM
  have l4 := rqL4_len M h t
  have hDl : D.length = M.length := by rw [hD]; exact rqDat_len u t hhe heM
  have dh : (rqL4 M h t).drop h = M.drop h := by
    have := congrArg (List.drop (h - 20)) o5
    rwa [List.drop_drop, List.drop_drop, show 20 + (h - 20) = h from by omega] at this
  have mid : ((rqL4 M h t).take e).drop h = (M.take e).drop h := by rw [List.drop_take, List.drop_take, dh]
  have qdat : (rdPk true M).dat = (M.take e).drop h := by
    rw [hr]
    show (M.take (alOf M).toNat).drop (hdOf M).toNat = _
    rw [← b2, ← b1]
  have qopt : (rdPk true M).opt = (M.take h).drop 20 := by
    rw [hr]
    show (M.take (hdOf M).toNat).drop 20 = _
    rw [← b1]
  obtain ⟨X, hX⟩ : ∃ X, bodyB ((M.take e).drop h) u t = X := ⟨_, rfl⟩
  have lX : X.length = e - h := by rw [← hX, bodyB_len, List.length_drop, List.length_take]; omega
  have hD2 : D = ((rqL4 M h t).take h ++ X) ++ ((rqL4 M h t).take M.length).drop e := by rw [hD]; unfold rqDat; rw [mid, hX]
  have lt : ((rqL4 M h t).take h).length = h := by rw [List.length_take, l4]; omega
  have dth : D.take h = (rqL4 M h t).take h := by
    rw [hD2, List.append_assoc]
    exact List.take_left' lt
  have dte : (D.take e).drop h = X := by
    rw [hD2, List.take_left' (by rw [List.length_append, lt, lX]; omega)]
    exact List.drop_left' lt
  have db : ∀ j, j < h → bt D j = bt (rqL4 M h t) j := fun j hj => by
    rw [← bt_take (l := D) hj, dth, bt_take hj]
  have dm : ∀ j, j < h → (j < 10 ∨ 20 ≤ j) → bt D j = bt M j := fun j hj hf => (db j hj).trans (o1 j hf)
  have g : ∀ j : Nat, j + 2 ≤ 10 → get16 D j = get16 M j := fun j hj => get16_congr (by rw [hDl]; omega) (by omega) (dm j (by omega) (by omega)) (dm (j + 1) (by omega) (by omega))
  have q2 : get16 D 2 = get16 M 2 := g 2 (by omega)
  have q4 : get16 D 4 = get16 M 4 := g 4 (by omega)
  have q6 : get16 D 6 = get16 M 6 := g 6 (by omega)
  have hdo : hdOf D = hdOf M := by unfold hdOf; rw [dm 0 (by omega) (by omega)]
  have hal : alOf D = alOf M := by unfold alOf; rw [hDl, q2]
  have hle : lenE true D = lenE true M := by unfold lenE; rw [hDl, dm 0 (by omega) (by omega), hdo, q2]
  have hE2 : rdE true D = 0 := by
    unfold rdE at hE ⊢
    rw [hle, hdo, hal, q6, ← b1, dth, o4]
    split at hE
    · rename_i hc; exact absurd hE hc
    rename_i hc
    rw [if_neg hc, if_neg (by simp)]
    split at hE
    · cases hE
    exact hE
  refine ⟨hDl, hE2, ?_⟩
  have hr2 : rdPk true D = rdP D := by unfold rdPk; rw [if_pos hE2]
  have s12 : get32 D 12 = t.src := by
    have := get32_congr (l := D) (m := rqL4 M h t) (k := 12) (by rw [hDl]; omega) (by rw [l4]; omega) (db _ (by omega)) (db _ (by omega)) (db _ (by omega)) (db _ (by omega))
    exact this.trans o2
  have s16 : get32 D 16 = t.dst := by
    have := get32_congr (l := D) (m := rqL4 M h t) (k := 16) (by rw [hDl]; omega) (by rw [l4]; omega) (db _ (by omega)) (db _ (by omega)) (db _ (by omega)) (db _ (by omega))
    exact this.trans o3
  have hopt : (D.take h).drop 20 = (M.take h).drop 20 := by rw [dth, List.drop_take, List.drop_take, o5]
  rw [hr2]
  unfold rdP
  rw [hdo, hal, ← b1, ← b2, dte, hopt, s12, s16, q4, q6, dm 1 (by omega) (by omega), dm 8 (by omega) (by omega), dm 9 (by omega) (by omega), ← qopt, qdat, hX, hr]
  rfl
structure RqOk (p : Pkt) (sa sb : Int) (t : Tup) (q : Pkt) : Prop where
  form : q = ⟨p.tos, p.id, p.keep, p.ttl, 1, sa, sb, p.opt, mS (rqM p t)⟩
  e : quE q = 0
  tt : quT q = toldT t
  src : q.src = sa
  dst : q.dst = sb
  ie : icE p = 0
  im : icE q = 0 ∧ icM q = rqM p t
  len : (rqM p t).dat.length = (icM p).dat.length
  small : q.dat.length ≤ 65535 ∧ q.dat.length = p.dat.length
  ok : p.Ok → (0 ≤ sa ∧ sa ≤ 4294967295) → (0 ≤ sb ∧ sb ≤ 4294967295) → q.Ok
theorem rq_told {p : Pkt} {sa sb : Int} {t : Tup} (ht : t.Ok) (h : rqE p sa sb t = 0) : RqOk p sa sb t (rqP p sa sb t) := by
  unfold rqE at h
  unfold rqP
  by_cases h0 : quE p = 0
  case neg => rw [if_pos h0] at h; exact absurd h h0
  have n0 : ¬ (quE p ≠ 0) := by simpa using h0
  rw [if_neg n0] at h ⊢
  by_cases h1 : (quT p).proto = t.proto
  case neg => rw [if_pos h1] at h; cases h
  have n1 : ¬ ((quT p).proto ≠ t.proto) := by simpa using h1
  rw [if_neg n1] at h ⊢
  obtain ⟨e1, e2, e3, e4⟩ := quE_zero h0
  have hT : quT p = inT (rdPk true (icM p).dat) := by unfold quT; rw [if_pos h0]
  have hpr : (rdPk true (icM p).dat).proto = t.proto := by
    rw [hT] at h1
    unfold inT tuP at h1
    rw [e4, if_neg (by decide)] at h1
    exact h1
  obtain ⟨d1, d2, d3⟩ := dat_told e3 (quT p) t ht (rqD p t) rfl
  obtain ⟨m1, m2⟩ := body_told (rd_8 e3) e4 (quT p) t ht hpr
  have hw : wiE (rqQ p sa sb) (mS (rqM p t)).length = 0 := by rw [mS_len]; exact h
  have hP : withP (rqQ p sa sb) 1 (mS (rqM p t)) = { rqQ p sa sb with proto := 1, dat := mS (rqM p t) } := by unfold withP; rw [if_pos hw]
  obtain ⟨i1, i2⟩ := ic_back (rqQ p sa sb) (rqM p t) (rqM_ok p t)
  rw [hP]
  have herr : isErrM (rqM p t) = true := e2
  have hq : quE { rqQ p sa sb with proto := 1, dat := mS (rqM p t) } = 0 := by
    unfold quE
    rw [i1, i2, herr, if_neg (by decide), if_neg (by decide)]
    show (if rdE true (rqD p t) ≠ 0 then _ else inE (rdPk true (rqD p t))) = 0
    rw [d2, d3, if_neg (by decide), m1]
  obtain ⟨w1, w2, w3⟩ := wiE_zero hw
  have hic := ic_fit e1
  refine ⟨rfl, hq, ?_, rfl, rfl, e1, ⟨i1, i2⟩, d1, ⟨?_, ?_⟩, ?_⟩
  · unfold quT
    rw [if_pos hq, i2]
    show inT (rdPk true (rqD p t)) = _
    rw [d3, m2]
  · show (mS (rqM p t)).length ≤ 65535; omega
  · show (mS (rqM p t)).length = _
    rw [mS_len]
    show 8 + (rqD p t).length = _
    rw [d1]; exact hic
  · intro hp hs hd
    exact ⟨hp.1, hp.2, hp.3, (by show (0 : Int) ≤ 1 ∧ (1 : Int) ≤ 255; decide), hs, hd⟩
theorem quote_cut {p : Pkt} (hp : p.Ok) (h : bdE p = 0) {k : Nat} (hk : 8 ≤ k) (hk2 : k ≤ p.dat.length) :
    rdE true ((bdL p).take (20 + p.opt.length + k)) = 0 ∧ rdPk true ((bdL p).take (20 + p.opt.length + k)) = { p with dat := p.dat.take k } := by
  obtain ⟨n1, n2, n3⟩ := bdE_zero h
  have e0 : (bdL p).take (20 + p.opt.length + k) = hx p (csum (hdL p)) ++ (p.opt ++ p.dat.take k) := by
    rw [bdL_form h, List.take_append, List.take_append, hx_len, List.take_of_length_le (by rw [hx_len]; omega), show 20 + p.opt.length + k - 20 = p.opt.length + k from by omega, List.take_of_length_le (by omega), show p.opt.length + k - p.opt.length = k from by omega]
  have hs := good_hd p
  obtain ⟨c, hc⟩ : ∃ c, csum (hdL p) = c := ⟨_, rfl⟩
  have c0 := csum_lo (hdL p)
  have c1 := csum_hi (hdL p)
  rw [hc] at e0 hs c0 c1
  rw [e0]
  obtain ⟨f0, f1, f2, f3, f4, f5, f6, f7, f8, f9⟩ := hx_at hp c0 c1 (p.opt ++ p.dat.take k) n1 n3
  have hl : (hx p c ++ (p.opt ++ p.dat.take k)).length = 20 + p.opt.length + k := by simp [hx_len, Nat.min_eq_left hk2]; omega
  have t1 : (hx p c ++ (p.opt ++ p.dat.take k)).take (20 + p.opt.length) = hx p c ++ p.opt := by
    rw [← List.append_assoc]; exact List.take_left' (by rw [List.length_append, hx_len])
  have k6 : ¬ (get16 (hx p c ++ (p.opt ++ p.dat.take k)) 6 % 16384 ≠ 0) ∧ ¬ (32768 ≤ get16 (hx p c ++ (p.opt ++ p.dat.take k)) 6) ∧ (get16 (hx p c ++ (p.opt ++ p.dat.take k)) 6 != 0) = p.keep := by
    rw [f4]; cases p.keep <;> decide
  obtain ⟨l, hle⟩ : ∃ l, hx p c ++ (p.opt ++ p.dat.take k) = l := ⟨_, rfl⟩
  have d2 : (l.take (20 + p.opt.length + k)).drop (20 + p.opt.length) = p.dat.take k := by
    rw [← hle, List.take_of_length_le (by rw [hl]; exact Nat.le_refl _), ← List.append_assoc]
    exact List.drop_left' (by rw [List.length_append, hx_len])
  rw [hle] at f0 f1 f2 f3 f4 f5 f6 f7 f8 f9 hl t1 k6 ⊢
  have e1 : hdOf l = 20 + p.opt.length := by unfold hdOf; omega
  have e2 : alOf l = 20 + p.opt.length + k := by unfold alOf; rw [f2, hl]; split <;> omega
  have e3 : lenE true l = 0 := by
    unfold lenE
    rw [e1, f2, hl, if_neg (by omega), if_neg (by omega), if_neg (by omega), if_neg (by omega), if_neg (by omega), if_neg (by rintro ⟨h, _⟩; cases h)]
  have e4 : rdE true l = 0 := by
    unfold rdE
    rw [e3, e1, e2, show ((20 + (p.opt.length : Int)).toNat) = 20 + p.opt.length from by omega, t1, hs, if_neg (by simp), if_neg (by simp), if_neg k6.1, if_neg k6.2.1, if_neg (by omega)]
  refine ⟨e4, ?_⟩
  unfold rdPk
  rw [if_pos e4]
  have d1 : (20 + (p.opt.length : Int)).toNat = 20 + p.opt.length := by omega
  have d3 : (20 + (p.opt.length : Int) + (k : Int)).toNat = 20 + p.opt.length + k := by omega
  unfold rdP
  rw [e1, e2, d1, d3, t1, d2, f1, f3, k6.2.2, f5, f6, f8, f9, List.drop_left' (hx_len p c)]
theorem g16_take {l : List UInt8} {k : Nat} (hk : k ≤ l.length) {i : Nat} (h : i + 2 ≤ k) (j : Int) (hj : j = i) : get16 (l.take k) j = get16 l j := by
  subst hj; exact get16_take h hk
theorem tc_zero {p : Pkt} (h : tcE p = 0) : 20 ≤ p.dat.length := by
  unfold tcE at h
  split at h
  · cases h
  split at h
  · cases h
  omega
theorem ud_zero {p : Pkt} (h : udE p = 0) : 8 ≤ p.dat.length := by
  unfold udE at h
  split at h
  · cases h
  split at h
  · cases h
  omega
theorem ic_zero {p : Pkt} (h : icE p = 0) : 8 ≤ p.dat.length := by
  unfold icE at h
  split at h
  · cases h
  split at h
  · cases h
  omega
theorem ge_zero {p : Pkt} (h : geE p = 0) : 8 ≤ p.dat.length ∧ begB p.dat = true := by
  unfold geE at h
  split at h
  · cases h
  split at h
  · cases h
  split at h
  · cases h
  rename_i h3
  exact ⟨by omega, by simpa using h3⟩
theorem pic_zero {E : Int} {m : Msg} (h : picE E m = 0) : E = 0 ∧ isEchoM m = true := by
  unfold picE at h
  split at h
  · cases h
  rename_i h1
  subst h
  exact ⟨rfl, by cases hb : isEchoM m <;> simp_all⟩
theorem of_ways (p : Pkt) (h : ofE p = 0) : 8 ≤ p.dat.length ∧ ((p.proto = 6 ∧ ofT p = ⟨p.proto, p.src, p.dst, get16 p.dat 0, get16 p.dat 2⟩) ∨ (p.proto = 17 ∧ ofT p = ⟨p.proto, p.src, p.dst, get16 p.dat 0, get16 p.dat 2⟩) ∨
    (p.proto = 1 ∧ qEch p.dat = true ∧ ofT p = ⟨p.proto, p.src, p.dst, get16 p.dat 4, get16 p.dat 4⟩) ∨ (p.proto = 47 ∧ begB p.dat = true ∧ ofT p = ⟨p.proto, p.src, p.dst, 0, get16 p.dat 6⟩)) := by
  unfold ofE at h
  unfold ofT
  by_cases h6 : p.proto = 6
  · rw [if_pos h6] at h ⊢
    rw [h]
    have e : tcS p = rdS p.dat := by unfold tcS; rw [if_pos h]
    refine ⟨by have := tc_zero h; omega, .inl ⟨h6, ?_⟩⟩
    rw [e, tuP, if_neg (by decide)]
    rfl
  rw [if_neg h6] at h ⊢
  by_cases h17 : p.proto = 17
  · rw [if_pos h17] at h ⊢
    rw [h]
    have e : udD p = rdD p.dat := by unfold udD; rw [if_pos h]
    refine ⟨ud_zero h, .inr (.inl ⟨h17, ?_⟩)⟩
    rw [e, tuP, if_neg (by decide)]
    rfl
  rw [if_neg h17] at h ⊢
  by_cases h1 : p.proto = 1
  · rw [if_pos h1] at h ⊢
    rw [h]
    obtain ⟨h2, h3⟩ := pic_zero h
    have e : icM p = ⟨bt p.dat 0, bt p.dat 1, get32 p.dat 4, p.dat.drop 8⟩ := by unfold icM; rw [if_pos h2]
    have h8 := ic_zero h2
    have e4 : get32 p.dat 4 / 65536 = get16 p.dat 4 := by
      rw [get32_in (by omega) (by omega)]
      have := get16_lo p.dat (4 + 2)
      have := get16_hi p.dat (4 + 2)
      omega
    refine ⟨h8, .inr (.inr (.inl ⟨h1, ?_, ?_⟩))⟩
    · rw [e] at h3; exact h3
    · rw [e, tuP, if_neg (by decide)]
      show (⟨p.proto, p.src, p.dst, get32 p.dat 4 / 65536, get32 p.dat 4 / 65536⟩ : Tup) = _
      rw [e4]
  rw [if_neg h1] at h ⊢
  by_cases h47 : p.proto = 47
  · rw [if_pos h47] at h ⊢
    rw [h]
    obtain ⟨h8, hb⟩ := ge_zero h
    have e : geF p = rdF p.dat := by unfold geF; rw [if_pos h]
    refine ⟨h8, .inr (.inr (.inr ⟨h47, hb, ?_⟩))⟩
    rw [e, tuP, if_neg (by decide)]
    rfl
  rw [if_neg h47] at h
  cases h
theorem quote_told {p : Pkt} (h : ofE p = 0) {k : Nat} (h8 : 8 ≤ k) (hk : k ≤ p.dat.length) : inE { p with dat := p.dat.take k } = 0 ∧ inT { p with dat := p.dat.take k } = ofT p := by
  obtain ⟨-, ways⟩ := of_ways p h
  have g0 := g16_take hk (i := 0) (by omega) 0 rfl
  have g2 := g16_take hk (i := 2) (by omega) 2 rfl
  have g4 := g16_take hk (i := 4) (by omega) 4 rfl
  have g6 := g16_take hk (i := 6) (by omega) 6 rfl
  have b0 : bt (p.dat.take k) 0 = bt p.dat 0 := bt_take (by omega)
  have b1 : bt (p.dat.take k) 1 = bt p.dat 1 := bt_take (by omega)
  have b2 : bt (p.dat.take k) 2 = bt p.dat 2 := bt_take (by omega)
  have b3 : bt (p.dat.take k) 3 = bt p.dat 3 := bt_take (by omega)
  have qe : qEch (p.dat.take k) = qEch p.dat := by unfold qEch; rw [b0, b1]
  have be : begB (p.dat.take k) = begB p.dat := by unfold begB; rw [b0, b1, b2, b3]
  obtain ⟨q, hq⟩ : ∃ q : Pkt, { p with dat := p.dat.take k } = q := ⟨_, rfl⟩
  have q1 : q.proto = p.proto := by rw [← hq]
  have q2 : q.src = p.src := by rw [← hq]
  have q3 : q.dst = p.dst := by rw [← hq]
  have q4 : q.dat = p.dat.take k := by rw [← hq]
  rw [hq]
  unfold inT
  rcases ways with ⟨t, e⟩ | ⟨t, e⟩ | ⟨t, hb, e⟩ | ⟨t, hb, e⟩
  · have hE : inE q = 0 := by unfold inE; rw [q1, t]; simp
    refine ⟨hE, ?_⟩
    rw [hE, e, tuP, if_neg (by decide), q1, q2, q3]
    unfold inA inB
    rw [q1, q4, if_pos t, if_pos t, g0, g2]
  · have hE : inE q = 0 := by unfold inE; rw [q1, t]; simp
    refine ⟨hE, ?_⟩
    rw [hE, e, tuP, if_neg (by decide), q1, q2, q3]
    unfold inA inB
    rw [q1, q4, t]
    simp [g0, g2]
  · have hE : inE q = 0 := by unfold inE; rw [q1, t, q4, qe, hb]; simp
    refine ⟨hE, ?_⟩
    rw [hE, e, tuP, if_neg (by decide), q1, q2, q3]
    unfold inA inB
    rw [q1, q4, t]
    simp [g4]
  · have hE : inE q = 0 := by unfold inE; rw [q1, t, q4, be, hb]; simp
    refine ⟨hE, ?_⟩
    rw [hE, e, tuP, if_neg (by decide), q1, q2, q3]
    unfold inA inB
    rw [q1, q4, t]
    simp [g6]
theorem err_told {p : Pkt} (hp : p.Ok) (h : ofE p = 0) (hb : bdE p = 0) {k : Nat} (h8 : 8 ≤ k) (hk : k ≤ p.dat.length) (out : Pkt) (m : Msg) (hm : m.Ok) (he : isErrM m = true) (hd : m.dat = (bdL p).take (20 + p.opt.length + k)) :
    quE { out with proto := 1, dat := mS m } = 0 ∧ quT { out with proto := 1, dat := mS m } = ofT p ∧ ofE { out with proto := 1, dat := mS m } = 12 ∧ ofT { out with proto := 1, dat := mS m } = zT := by
  obtain ⟨c1, c2⟩ := quote_cut hp hb h8 hk
  obtain ⟨i1, i2⟩ := ic_back out m hm
  obtain ⟨t1, t2⟩ := quote_told h h8 hk
  have hec : isEchoM m = false := by
    unfold isErrM at he
    unfold isEchoM
    by_cases h1 : m.ty = 8
    · rw [h1] at he; cases he
    by_cases h2 : m.ty = 0
    · rw [h2] at he; cases he
    simp [h1, h2]
  have e : quE { out with proto := 1, dat := mS m } = inE (rdPk true (icM { out with proto := 1, dat := mS m }).dat) := by
    unfold quE
    rw [i1, i2, he, hd, c1, if_neg (by decide), if_neg (by decide), if_neg (by decide)]
  refine ⟨?_, ?_, ?_, ?_⟩
  · rw [e, i2, hd, c2, t1]
  · rw [quT_in e, i2, hd, c2, t2]
  · unfold ofE
    show (if (1 : Int) = 6 then _ else if (1 : Int) = 17 then _ else if (1 : Int) = 1 then _ else _) = _
    rw [if_neg (by decide), if_neg (by decide), if_pos rfl, i1, i2]
    unfold picE
    rw [if_pos ⟨rfl, hec⟩]
  · unfold ofT
    show (if (1 : Int) = 6 then _ else if (1 : Int) = 17 then _ else if (1 : Int) = 1 then _ else _) = _
    rw [if_neg (by decide), if_neg (by decide), if_pos rfl, i1, i2]
    have : picE 0 m = 12 := by unfold picE; rw [if_pos ⟨rfl, hec⟩]
    rw [this, tuP, if_pos (by decide)]
theorem fd_mod (n : Int) : fd n % 65535 = n % 65535 := by unfold fd; split <;> omega
theorem patch_mod (s a b : Int) : patch s a b % 65535 = (s + (a - b)) % 65535 := by
  unfold patch
  have h := fd_mod ((65535 - s) + (65535 - a) + b)
  omega
def dsum (a b : Nat → Int) : Nat → Int
  | 0 => 0
  | k + 1 => dsum a b k + (a k - b k)
theorem patK_mod (s : Int) (a b : Nat → Int) : ∀ k, patK s a b k % 65535 = (s + dsum a b k) % 65535
  | 0 => by show s % 65535 = (s + 0) % 65535; rw [Int.add_zero]
  | k + 1 => by
    have h := patK_mod s a b k
    have h2 := patch_mod (patK s a b k) (a k) (b k)
    show patch (patK s a b k) (a k) (b k) % 65535 = (s + (dsum a b k + (a k - b k))) % 65535
    omega
theorem ws_pseudo {s d pr : Int} (n : Int) (s0 : 0 ≤ s ∧ s ≤ 4294967295) (d0 : 0 ≤ d ∧ d ≤ 4294967295) (p0 : 0 ≤ pr ∧ pr ≤ 255) :
    ws (pseudo s d pr n) = s / 65536 + s % 65536 + (d / 65536 + d % 65536) + pr + n % 65536 := by
  have z : ((0 : UInt8).toNat : Int) = 0 := rfl
  have e : ws (pseudo s d pr n) = 0 + (((ub (s / 16777216)).toNat : Int) * 256 + ((ub (s / 65536)).toNat : Int)) + (((ub (s / 256)).toNat : Int) * 256 + ((ub s).toNat : Int)) + (((ub (d / 16777216)).toNat : Int) * 256 + ((ub (d / 65536)).toNat : Int)) + (((ub (d / 256)).toNat : Int) * 256 + ((ub d).toNat : Int)) + (((0 : UInt8).toNat : Int) * 256 + ((ub pr).toNat : Int)) + (((ub (n % 65536 / 256)).toNat : Int) * 256 + ((ub (n % 65536)).toNat : Int)) := by
    simp [ws, wsK, wd, bt, pseudo, four, two]
  rw [e]
  simp only [ub_val, z]
  omega
theorem csum_mod {l : List UInt8} (h : csum l = 0) : ws l % 65535 = 0 := ((csum_zero l).1 h).2
structure TwoOk (l L : List UInt8) (a b : Int) : Prop where
  len : L.length = l.length
  sum : ws L = ws l - wd l 0 + a - wd l 1 + b
  g0 : get16 L ((0 : Nat) : Int) = a
  g2 : get16 L ((2 : Nat) : Int) = b
  far : ∀ j, 4 ≤ j → bt L j = bt l j
  drop : ∀ n, 4 ≤ n → L.drop n = l.drop n
theorem two_ok {l : List UInt8} {a b : Int} (a0 : 0 ≤ a ∧ a ≤ 65535) (b0 : 0 ≤ b ∧ b ≤ 65535) (h : 4 ≤ l.length) : TwoOk l (put16 (put16 l ((0 : Nat) : Int) a) ((2 : Nat) : Int) b) a b := by
  have l1 : (put16 l ((0 : Nat) : Int) a).length = l.length := put16_length _ _ _
  refine ⟨by rw [put16_length, l1], ?_, ?_, ?_, fun j hj => ?_, fun n hn => ?_⟩
  · have e1 := ws_put16 (l := put16 l ((0 : Nat) : Int) a) (j := 1) b0.1 b0.2 (by omega)
    have e2 := ws_put16 (l := l) (j := 0) a0.1 a0.2 (by omega)
    have e3 := wd_put16_other (l := l) (i := 1) (j := 0) a0.1 a0.2 (by omega) (by decide)
    simp only [Nat.mul_one, Nat.mul_zero] at e1 e2 e3
    rw [e1, e2, e3]
  · rw [get16_put16_far (by omega) (by omega) (by omega), get16_put16 a0.1 a0.2 (by omega)]
  · rw [get16_put16 b0.1 b0.2 (by omega)]
  · rw [bt_put16 (by omega), if_neg (by omega), if_neg (by omega), bt_put16 (by omega), if_neg (by omega), if_neg (by omega)]
  · rw [drop_put16 (by omega) (by omega), drop_put16 (by omega) (by omega)]
theorem dsum_wds (u t : Tup) : dsum (wdsT u) (wdsT t) 6 = (u.src / 65536 - t.src / 65536) + (u.src % 65536 - t.src % 65536) + (u.dst / 65536 - t.dst / 65536) + (u.dst % 65536 - t.dst % 65536) + (u.sp - t.sp) + (u.dp - t.dp) := by
  show 0 + (u.src / 65536 - t.src / 65536) + (u.src % 65536 - t.src % 65536) + (u.dst / 65536 - t.dst / 65536) + (u.dst % 65536 - t.dst % 65536) + (u.sp - t.sp) + (u.dp - t.dp) = _
  omega
theorem psum_ws {p : Pkt} (hp : p.Ok) {pr : Int} (p0 : 0 ≤ pr ∧ pr ≤ 255) (l : List UInt8) : ws (pseudo p.src p.dst pr l.length ++ l) = p.src / 65536 + p.src % 65536 + (p.dst / 65536 + p.dst % 65536) + pr + (l.length : Int) % 65536 + ws l := by
  rw [ws_append _ (by rw [pseudo_len]), ws_pseudo _ hp.5 hp.6 p0]
theorem psum_zero {p : Pkt} (hp : p.Ok) {pr : Int} (p0 : 1 ≤ pr ∧ pr ≤ 255) (l : List UInt8) : psum p pr l = 0 ↔ (p.src / 65536 + p.src % 65536 + (p.dst / 65536 + p.dst % 65536) + pr + (l.length : Int) % 65536 + ws l) % 65535 = 0 := by
  unfold psum
  rw [csum_zero, psum_ws hp ⟨by omega, p0.2⟩]
  have := ws_lo l
  have h5 := hp.5
  have h6 := hp.6
  constructor
  · exact fun h => h.2
  · exact fun h => ⟨by omega, h⟩
def inP (p : Pkt) (t : Tup) : Pkt := { p with src := t.src, dst := t.dst, dat := bodyB p.dat (ofT p) t }
theorem inP_ok {p : Pkt} (hp : p.Ok) {t : Tup} (ht : t.Ok) : (inP p t).Ok := ⟨hp.1, hp.2, hp.3, hp.4, ht.src, ht.dst⟩
theorem inn_tcp {p : Pkt} (hp : p.Ok) {t : Tup} (ht : t.Ok) (hpr : p.proto = 6) (htp : t.proto = 6) (h : tcE p = 0) (hu : ofT p = ⟨p.proto, p.src, p.dst, get16 p.dat 0, get16 p.dat 2⟩) :
    tcE (inP p t) = 0 ∧ tcS (inP p t) = tcW p t := by
  have h20 := tc_zero h
  have h' := h
  obtain ⟨l, hl⟩ : ∃ l, p.dat = l := ⟨_, rfl⟩
  rw [hl] at h20 hu
  obtain ⟨q, hq⟩ : ∃ q, inP p t = q := ⟨_, rfl⟩
  have q1 : q.proto = 6 := by rw [← hq]; exact hpr
  have qok : q.Ok := by rw [← hq]; exact inP_ok hp ht
  have qs : q.src = t.src := by rw [← hq]; rfl
  have qd : q.dst = t.dst := by rw [← hq]; rfl
  obtain ⟨L, hL⟩ : ∃ L, put16 (put16 l ((0 : Nat) : Int) t.sp) ((2 : Nat) : Int) t.dp = L := ⟨_, rfl⟩
  have T : TwoOk l L t.sp t.dp := by rw [← hL]; exact two_ok ht.sp ht.dp (by omega)
  obtain ⟨T1, T2, T3, T4, T5, T6⟩ := T
  obtain ⟨x, hx⟩ : ∃ x, patK (get16 L 16) (wdsT (ofT p)) (wdsT t) 6 = x := ⟨_, rfl⟩
  have hD : q.dat = put16 L ((16 : Nat) : Int) x := by
    rw [← hq, ← hx, ← hL]
    show bodyB p.dat (ofT p) t = _
    unfold bodyB
    rw [if_pos htp, hl, if_pos (by omega)]
    rfl
  have xb : 0 ≤ x ∧ x ≤ 65535 := by rw [← hx]; exact patK_bd (get16_lo _ _) (get16_hi _ _) _ _ 6
  have xm := patK_mod (get16 L 16) (wdsT (ofT p)) (wdsT t) 6
  have g0 : get16 l 0 = wd l 0 := get16_wd (j := 0) (by omega)
  have g2 : get16 l 2 = wd l 1 := get16_wd (j := 1) (by omega)
  have g16 : get16 L 16 = wd L 8 := get16_wd (j := 8) (by omega)
  have w8 : wd L 8 = wd l 8 := by unfold wd; rw [T5 _ (by omega), T5 _ (by omega)]
  rw [hx, dsum_wds, hu, g16, w8] at xm
  simp only [g0, g2] at xm
  have hw : ¬ (hdS l < 20 ∨ bt l 12 % 16 ≠ 0) ∧ hdS l ≤ l.length ∧ psum p 6 l = 0 ∧ ¬ (optsP ((l.take (hdS l)).drop 20) = none) := by
    unfold tcE at h
    rw [hl, if_neg (by omega), if_neg (by omega)] at h
    split at h
    · cases h
    rename_i a
    split at h
    · cases h
    rename_i b
    split at h
    · cases h
    rename_i c
    split at h
    · cases h
    rename_i d
    exact ⟨a, by omega, by simpa using c, d⟩
  obtain ⟨ha, hb, hc, hd⟩ := hw
  have hlen : q.dat.length = l.length := by rw [hD, put16_length, T1]
  have fb : ∀ j, 4 ≤ j → (j < 16 ∨ 18 ≤ j) → bt q.dat j = bt l j := fun j h4 hf => by rw [hD, bt_put16 (by omega), if_neg (by omega), if_neg (by omega), T5 _ h4]
  have hh : hdS q.dat = hdS l := by unfold hdS; rw [fb 12 (by omega) (by omega)]
  have dr : ∀ n, 18 ≤ n → q.dat.drop n = l.drop n := fun n hn => by rw [hD, drop_put16 (by omega) (by omega), T6 _ (by omega)]
  have oo : (q.dat.take (hdS l)).drop 20 = (l.take (hdS l)).drop 20 := by rw [List.drop_take, List.drop_take, dr 20 (by omega)]
  have hws : ws q.dat = ws L - wd L 8 + x := by rw [hD]; exact ws_put16 (j := 8) xb.1 xb.2 (by omega)
  rw [w8, T2] at hws
  have hs : psum q 6 q.dat = 0 := by
    rw [psum_zero qok ⟨by decide, by decide⟩, hlen, qs, qd, hws]
    rw [psum_zero hp ⟨by decide, by decide⟩] at hc
    obtain ⟨z0, hz0⟩ : ∃ z, wd l 0 = z := ⟨_, rfl⟩
    obtain ⟨z1, hz1⟩ : ∃ z, wd l 1 = z := ⟨_, rfl⟩
    obtain ⟨z8, hz8⟩ : ∃ z, wd l 8 = z := ⟨_, rfl⟩
    obtain ⟨W, hW⟩ : ∃ z, ws l = z := ⟨_, rfl⟩
    rw [hz0, hz1, hz8] at xm
    rw [hz0, hz1, hz8, hW]
    rw [hW] at hc
    omega
  have hE : tcE q = 0 := by
    unfold tcE
    rw [hlen, hh, fb 12 (by omega) (by omega), oo, hs, if_neg (by omega), if_neg (by omega), if_neg ha, if_neg (by omega), if_neg (by simp), if_neg hd]
  refine ⟨by rw [hq]; exact hE, ?_⟩
  rw [hq]
  have k0 : get16 q.dat 0 = t.sp := by
    rw [hD]
    show get16 (put16 L ((16 : Nat) : Int) x) ((0 : Nat) : Int) = _
    rw [get16_put16_far (by omega) (by omega) (by omega), T3]
  have k2 : get16 q.dat 2 = t.dp := by
    rw [hD]
    show get16 (put16 L ((16 : Nat) : Int) x) ((2 : Nat) : Int) = _
    rw [get16_put16_far (by omega) (by omega) (by omega), T4]
  have k4 : get32 q.dat 4 = get32 l 4 := get32_congr (k := 4) (by omega) (by omega) (fb _ (by omega) (by omega)) (fb _ (by omega) (by omega)) (fb _ (by omega) (by omega)) (fb _ (by omega) (by omega))
  have k8 : get32 q.dat 8 = get32 l 8 := get32_congr (k := 8) (by omega) (by omega) (fb _ (by omega) (by omega)) (fb _ (by omega) (by omega)) (fb _ (by omega) (by omega)) (fb _ (by omega) (by omega))
  have k14 : get16 q.dat 14 = get16 l 14 := get16_congr (k := 14) (by omega) (by omega) (fb _ (by omega) (by omega)) (fb _ (by omega) (by omega))
  have k18 : get16 q.dat 18 = get16 l 18 := get16_congr (k := 18) (by omega) (by omega) (fb _ (by omega) (by omega)) (fb _ (by omega) (by omega))
  unfold tcW tcS
  rw [if_pos hE, if_pos h', hl]
  unfold rdS
  rw [hh, oo, k0, k2, k4, k8, k14, k18, fb 13 (by omega) (by omega), dr (hdS l) (by omega)]
theorem inn_udp {p : Pkt} (hp : p.Ok) {t : Tup} (ht : t.Ok) (hpr : p.proto = 17) (htp : t.proto = 17) (h : udE p = 0) (hu : ofT p = ⟨p.proto, p.src, p.dst, get16 p.dat 0, get16 p.dat 2⟩) :
    udE (inP p t) = 0 ∧ udD (inP p t) = udW p t := by
  have h8 := ud_zero h
  have h' := h
  obtain ⟨l, hl⟩ : ∃ l, p.dat = l := ⟨_, rfl⟩
  rw [hl] at h8 hu
  obtain ⟨q, hq⟩ : ∃ q, inP p t = q := ⟨_, rfl⟩
  have q1 : q.proto = 17 := by rw [← hq]; exact hpr
  have qok : q.Ok := by rw [← hq]; exact inP_ok hp ht
  have qs : q.src = t.src := by rw [← hq]; rfl
  have qd : q.dst = t.dst := by rw [← hq]; rfl
  obtain ⟨L, hL⟩ : ∃ L, put16 (put16 l ((0 : Nat) : Int) t.sp) ((2 : Nat) : Int) t.dp = L := ⟨_, rfl⟩
  have T : TwoOk l L t.sp t.dp := by rw [← hL]; exact two_ok ht.sp ht.dp (by omega)
  obtain ⟨T1, T2, T3, T4, T5, T6⟩ := T
  have L6 : get16 L 6 = get16 l 6 := get16_congr (k := 6) (by omega) (by omega) (T5 _ (by omega)) (T5 _ (by omega))
  have w3 : wd L 3 = wd l 3 := by unfold wd; rw [T5 _ (by omega), T5 _ (by omega)]
  have g6 : get16 l 6 = wd l 3 := get16_wd (j := 3) (by omega)
  have g0 : get16 l 0 = wd l 0 := get16_wd (j := 0) (by omega)
  have g2 : get16 l 2 = wd l 1 := get16_wd (j := 1) (by omega)
  have hw : get16 l 4 = (l.length : Int) ∧ (get16 l 6 ≠ 0 → psum p 17 l = 0) := by
    unfold udE at h
    rw [hl, if_neg (by omega), if_neg (by omega)] at h
    split at h
    · cases h
    rename_i a
    split at h
    · cases h
    rename_i b
    exact ⟨by simpa using a, fun c => by
      by_cases e : psum p 17 l = 0
      · exact e
      · exact absurd ⟨c, e⟩ b⟩
  obtain ⟨ha, hb⟩ := hw
  -- what the bytes are
  have hD : (wd l 3 = 0 ∧ q.dat = L) ∨ (wd l 3 ≠ 0 ∧ ∃ z, q.dat = put16 L ((6 : Nat) : Int) z ∧ 1 ≤ z ∧ z ≤ 65535 ∧ z % 65535 = (wd l 3 + dsum (wdsT (ofT p)) (wdsT t) 6) % 65535) := by
    have e : q.dat = bodyB l (ofT p) t := by rw [← hq, ← hl]; rfl
    have eL : put16 (put16 l 0 t.sp) 2 t.dp = L := hL
    unfold bodyB at e
    rw [if_neg (by omega), if_pos htp, eL, L6, g6] at e
    by_cases c : wd l 3 = 0
    · rw [if_pos c] at e; exact .inl ⟨c, e⟩
    rw [if_neg c] at e
    refine .inr ⟨c, ?_⟩
    obtain ⟨y, hy⟩ : ∃ y, patK (wd l 3) (wdsT (ofT p)) (wdsT t) 6 = y := ⟨_, rfl⟩
    have yb : 0 ≤ y ∧ y ≤ 65535 := by rw [← hy]; exact patK_bd (wd_lo _ _) (wd_hi _ _) _ _ 6
    have ym := patK_mod (wd l 3) (wdsT (ofT p)) (wdsT t) 6
    rw [hy] at e ym
    have gy : get16 (put16 L 6 y) 6 = y := get16_put16 (i := 6) yb.1 yb.2 (by omega)
    rw [gy] at e
    by_cases c2 : y = 0
    · rw [if_pos c2] at e
      refine ⟨65535, ?_, by omega, by omega, by omega⟩
      rw [e]
      show put16 (put16 L ((6 : Nat) : Int) y) ((6 : Nat) : Int) 65535 = _
      rw [put16_eq (by rw [put16_length]; omega), put16_eq (by omega), put16_eq (by omega)]
      rw [List.set_comm (i := 6 + 1) (j := 6) _ _ (by omega), List.set_set, List.set_set]
    · rw [if_neg c2] at e
      exact ⟨y, e, by omega, by omega, ym⟩
  have hlen : q.dat.length = l.length := by
    rcases hD with ⟨-, e⟩ | ⟨-, z, e, -⟩
    · rw [e, T1]
    · rw [e, put16_length, T1]
  have fb : ∀ j, 4 ≤ j → (j < 6 ∨ 8 ≤ j) → bt q.dat j = bt l j := fun j h4 hf => by
    rcases hD with ⟨-, e⟩ | ⟨-, z, e, -⟩
    · rw [e, T5 _ h4]
    · rw [e, bt_put16 (by omega), if_neg (by omega), if_neg (by omega), T5 _ h4]
  have dr : q.dat.drop 8 = l.drop 8 := by
    rcases hD with ⟨-, e⟩ | ⟨-, z, e, -⟩
    · rw [e, T6 _ (by omega)]
    · rw [e, drop_put16 (by omega) (by omega), T6 _ (by omega)]
  have k0 : get16 q.dat 0 = t.sp ∧ get16 q.dat 2 = t.dp := by
    rcases hD with ⟨-, e⟩ | ⟨-, z, e, -⟩
    · rw [e]; exact ⟨T3, T4⟩
    · rw [e]
      show get16 (put16 L ((6 : Nat) : Int) z) ((0 : Nat) : Int) = _ ∧ get16 (put16 L ((6 : Nat) : Int) z) ((2 : Nat) : Int) = _
      rw [get16_put16_far (by omega) (by omega) (by omega), get16_put16_far (by omega) (by omega) (by omega), T3, T4]
      exact ⟨rfl, rfl⟩
  have k4 : get16 q.dat 4 = get16 l 4 := get16_congr (k := 4) (by omega) (by omega) (fb _ (by omega) (by omega)) (fb _ (by omega) (by omega))
  have k6 : (get16 q.dat 6 = 0 ↔ get16 l 6 = 0) ∧ (get16 q.dat 6 ≠ 0 → psum q 17 q.dat = 0) := by
    rcases hD with ⟨c, e⟩ | ⟨c, z, e, z0, z1, zm⟩
    · rw [e, L6]; exact ⟨Iff.rfl, fun n => absurd (g6.trans c) n⟩
    · have gz : get16 q.dat 6 = z := by rw [e]; exact get16_put16 (i := 6) (by omega) (by omega) (by omega)
      refine ⟨by rw [gz, g6]; constructor <;> intro n <;> omega, fun _ => ?_⟩
      have hc := hb (by rw [g6]; exact c)
      have hws : ws q.dat = ws L - wd L 3 + z := by rw [e]; exact ws_put16 (j := 3) (by omega) (by omega) (by omega)
      rw [w3, T2] at hws
      rw [dsum_wds, hu] at zm
      simp only [g0, g2] at zm
      rw [psum_zero qok ⟨by decide, by decide⟩, hlen, qs, qd, hws]
      rw [psum_zero hp ⟨by decide, by decide⟩] at hc
      obtain ⟨z0, hz0⟩ : ∃ z, wd l 0 = z := ⟨_, rfl⟩
      obtain ⟨z1, hz1⟩ : ∃ z, wd l 1 = z := ⟨_, rfl⟩
      obtain ⟨z3, hz3⟩ : ∃ z, wd l 3 = z := ⟨_, rfl⟩
      obtain ⟨W, hW⟩ : ∃ z, ws l = z := ⟨_, rfl⟩
      rw [hz0, hz1, hz3] at zm
      rw [hz0, hz1, hz3, hW]
      rw [hW] at hc
      omega
  have hE : udE q = 0 := by
    unfold udE
    rw [hlen, k4, if_neg (by omega), if_neg (by omega), if_neg (by simp [ha]), if_neg (by rintro ⟨a, b⟩; exact b (k6.2 a))]
  refine ⟨by rw [hq]; exact hE, ?_⟩
  rw [hq]
  have kb : (get16 q.dat 6 == 0) = (get16 l 6 == 0) := by rw [Bool.eq_iff_iff, beq_iff_eq, beq_iff_eq]; exact k6.1
  unfold udW udD
  rw [if_pos hE, if_pos h', hl]
  unfold rdD
  rw [k0.1, k0.2, kb, dr]
theorem inn_icmp {p : Pkt} (hp : p.Ok) {t : Tup} (ht : t.Ok) (hpr : p.proto = 1) (htp : t.proto = 1) (h : icE p = 0) (hsp : t.sp ≠ 0) (hu : ofT p = ⟨p.proto, p.src, p.dst, get16 p.dat 4, get16 p.dat 4⟩) :
    icE (inP p t) = 0 ∧ icM (inP p t) = icW p t := by
  have h8 := ic_zero h
  have h' := h
  obtain ⟨l, hl⟩ : ∃ l, p.dat = l := ⟨_, rfl⟩
  rw [hl] at h8 hu
  obtain ⟨q, hq⟩ : ∃ q, inP p t = q := ⟨_, rfl⟩
  have q1 : q.proto = 1 := by rw [← hq]; exact hpr
  obtain ⟨L, hL⟩ : ∃ L, put16 l ((4 : Nat) : Int) t.sp = L := ⟨_, rfl⟩
  have T1 : L.length = l.length := by rw [← hL, put16_length]
  have T2 : ws L = ws l - wd l 2 + t.sp := by rw [← hL]; exact ws_put16 (j := 2) ht.sp.1 ht.sp.2 (by omega)
  have T5 : ∀ j, j < 4 ∨ 6 ≤ j → bt L j = bt l j := fun j hj => by rw [← hL, bt_put16 (by omega), if_neg (by omega), if_neg (by omega)]
  have T4 : get16 L ((4 : Nat) : Int) = t.sp := by rw [← hL]; exact get16_put16 ht.sp.1 ht.sp.2 (by omega)
  obtain ⟨x, hx⟩ : ∃ x, patK (get16 L 2) (six (ofT p).sp 0 0 0 0 0) (six t.sp 0 0 0 0 0) 6 = x := ⟨_, rfl⟩
  have hD : q.dat = put16 L ((2 : Nat) : Int) x := by
    rw [← hq, ← hx, ← hL]
    show bodyB p.dat (ofT p) t = _
    unfold bodyB
    rw [if_neg (by omega), if_neg (by omega), if_pos htp, hl]
    rfl
  have xb : 0 ≤ x ∧ x ≤ 65535 := by rw [← hx]; exact patK_bd (get16_lo _ _) (get16_hi _ _) _ _ 6
  have xm := patK_mod (get16 L 2) (six (ofT p).sp 0 0 0 0 0) (six t.sp 0 0 0 0 0) 6
  have ds : dsum (six (ofT p).sp 0 0 0 0 0) (six t.sp 0 0 0 0 0) 6 = (ofT p).sp - t.sp := by
    show 0 + ((ofT p).sp - t.sp) + (0 - 0) + (0 - 0) + (0 - 0) + (0 - 0) + (0 - 0) = _
    omega
  have g2 : get16 L 2 = wd L 1 := get16_wd (j := 1) (by omega)
  have g4 : get16 l 4 = wd l 2 := get16_wd (j := 2) (by omega)
  have w1 : wd L 1 = wd l 1 := by unfold wd; rw [T5 _ (by omega), T5 _ (by omega)]
  rw [hx, ds, hu, g2, w1] at xm
  simp only [g4] at xm
  have hc : csum l = 0 := by
    unfold icE at h
    rw [hl, if_neg (by omega), if_neg (by omega)] at h
    split at h
    · cases h
    rename_i a
    simpa using a
  have hlen : q.dat.length = l.length := by rw [hD, put16_length, T1]
  have hws : ws q.dat = ws L - wd L 1 + x := by rw [hD]; exact ws_put16 (j := 1) xb.1 xb.2 (by omega)
  rw [w1, T2] at hws
  have k4 : get16 q.dat ((4 : Nat) : Int) = t.sp := by rw [hD, get16_put16_far (by omega) (by omega) (by omega), T4]
  have hs : csum q.dat = 0 := by
    rw [csum_zero]
    constructor
    · intro z
      have := wd_zero_of_ws z (i := 2) (by omega)
      rw [show ((4 : Nat) : Int) = ((2 * 2 : Nat) : Int) from rfl, get16_wd (by omega)] at k4
      omega
    · have := csum_mod hc
      rw [hws]
      obtain ⟨z1, hz1⟩ : ∃ z, wd l 1 = z := ⟨_, rfl⟩
      obtain ⟨z2, hz2⟩ : ∃ z, wd l 2 = z := ⟨_, rfl⟩
      obtain ⟨W, hW⟩ : ∃ z, ws l = z := ⟨_, rfl⟩
      rw [hz1, hz2] at xm
      rw [hz1, hz2, hW]
      rw [hW] at this
      omega
  have hE : icE q = 0 := by
    unfold icE
    rw [hlen, hs, if_neg (by omega), if_neg (by omega), if_neg (by simp)]
  refine ⟨by rw [hq]; exact hE, ?_⟩
  rw [hq]
  have fb : ∀ j, j < 2 ∨ 6 ≤ j → bt q.dat j = bt l j := fun j hf => by rw [hD, bt_put16 (by omega), if_neg (by omega), if_neg (by omega), T5 _ (by omega)]
  have dr : q.dat.drop 8 = l.drop 8 := by rw [hD, drop_put16 (by omega) (by omega), ← hL, drop_put16 (by omega) (by omega)]
  have k6 : get16 q.dat 6 = get16 l 6 := get16_congr (k := 6) (by omega) (by omega) (fb _ (by omega)) (fb _ (by omega))
  have r1 : get32 q.dat 4 = t.sp * 65536 + get16 l 6 := by
    rw [get32_in (by omega) (by omega)]
    show get16 q.dat ((4 : Nat) : Int) * 65536 + get16 q.dat 6 = _
    rw [k4, k6]
  have r2 : get32 l 4 % 65536 = get16 l 6 := by
    rw [get32_in (by omega) (by omega)]
    show (get16 l 4 * 65536 + get16 l 6) % 65536 = _
    have := get16_lo l 6
    have := get16_hi l 6
    omega
  unfold icW icM
  rw [if_pos hE, if_pos h', hl]
  simp only
  rw [fb 0 (by omega), fb 1 (by omega), r1, r2, dr]
theorem inn_gre {p : Pkt} (hp : p.Ok) {t : Tup} (ht : t.Ok) (hpr : p.proto = 47) (htp : t.proto = 47) (h : geE p = 0) :
    geE (inP p t) = 0 ∧ geF (inP p t) = geW p t := by
  obtain ⟨h8, -⟩ := ge_zero h
  have h' := h
  obtain ⟨l, hl⟩ : ∃ l, p.dat = l := ⟨_, rfl⟩
  rw [hl] at h8
  obtain ⟨q, hq⟩ : ∃ q, inP p t = q := ⟨_, rfl⟩
  have q1 : q.proto = 47 := by rw [← hq]; exact hpr
  have hD : q.dat = put16 l ((6 : Nat) : Int) t.dp := by
    rw [← hq]
    show bodyB p.dat (ofT p) t = _
    unfold bodyB
    rw [if_neg (by omega), if_neg (by omega), if_neg (by omega), hl]
    rfl
  have hlen : q.dat.length = l.length := by rw [hD, put16_length]
  have fb : ∀ j, j < 6 ∨ 8 ≤ j → bt q.dat j = bt l j := fun j hf => by rw [hD, bt_put16 (by omega), if_neg (by omega), if_neg (by omega)]
  have k6 : get16 q.dat 6 = t.dp := by rw [hD]; exact get16_put16 (i := 6) ht.dp.1 ht.dp.2 (by omega)
  have k4 : get16 q.dat 4 = get16 l 4 := get16_congr (k := 4) (by omega) (by omega) (fb _ (by omega)) (fb _ (by omega))
  have sb : sB q.dat = sB l := by unfold sB; rw [fb 0 (by omega)]
  have ab : aB q.dat = aB l := by unfold aB; rw [fb 1 (by omega)]
  have hd : hdG q.dat = hdG l := by unfold hdG; rw [sb, ab]
  have bg : begB q.dat = begB l := by unfold begB; rw [fb 0 (by omega), fb 1 (by omega), fb 2 (by omega), fb 3 (by omega)]
  have h0 : geE p = geE q := by
    unfold geE
    rw [hl, hlen, hd, bg, k4, hpr, q1]
  have hE : geE q = 0 := h0 ▸ h
  have hbd : hdG l ≤ l.length := by
    unfold geE at h
    rw [hl, if_neg (by omega), if_neg (by omega)] at h
    split at h
    · cases h
    split at h
    · cases h
    rename_i a
    have := get16_lo l 4
    omega
  refine ⟨by rw [hq]; exact hE, ?_⟩
  rw [hq]
  have g32 : ∀ k : Nat, 8 ≤ k → k + 4 ≤ l.length → get32 q.dat k = get32 l k := fun k hk hk4 => get32_congr (by omega) (by omega) (fb _ (by omega)) (fb _ (by omega)) (fb _ (by omega)) (fb _ (by omega))
  have dr : q.dat.drop (hdG l) = l.drop (hdG l) := by rw [hD, drop_put16 (by omega) (by unfold hdG; omega)]
  unfold geW geF
  rw [if_pos hE, if_pos h', hl]
  unfold rdF
  rw [k6, sb, ab, hd, dr]
  unfold hdG at hbd
  cases hs : sB l <;> cases ha : aB l <;> rw [hs, ha] at hbd <;> simp at hbd ⊢
  · exact g32 8 (by omega) (by omega)
  · exact g32 8 (by omega) (by omega)
  · exact ⟨g32 8 (by omega) (by omega), g32 12 (by omega) (by omega)⟩
theorem inn_told {p : Pkt} (hp : p.Ok) {t : Tup} (ht : t.Ok) (h : ofE p = 0) (htp : t.proto = p.proto) (hsp : t.proto = 1 → t.sp ≠ 0) (hE : rwE p t = 0) : alikeB (inP p t) (rwP p t) = true ∧ ofE (inP p t) = 0 := by
  have hb := rw_back hp ht hE
  obtain ⟨d, hf, -⟩ := hb.form
  have r1 : (rwP p t).src = t.src := by rw [hf]
  have r2 : (rwP p t).dst = t.dst := by rw [hf]
  have r3 : (rwP p t).proto = p.proto := by rw [hf]
  have q1 : (inP p t).src = t.src := rfl
  have q2 : (inP p t).dst = t.dst := rfl
  have q3 : (inP p t).proto = p.proto := rfl
  obtain ⟨-, ways⟩ := of_ways p h
  unfold alikeB ofE
  rw [r1, r2, r3, q1, q2, q3]
  rcases own_ways h with ⟨c, z, e⟩ | ⟨c, z, e⟩ | ⟨c, z, ec, e⟩ | ⟨c, z, e⟩
  · have hu : ofT p = ⟨p.proto, p.src, p.dst, get16 p.dat 0, get16 p.dat 2⟩ := by
      rcases ways with ⟨-, w⟩ | ⟨x, -⟩ | ⟨x, -⟩ | ⟨x, -⟩
      · exact w
      all_goals omega
    obtain ⟨a, b⟩ := inn_tcp hp ht c (by omega) z hu
    obtain ⟨a2, b2⟩ := hb.tc c
    rw [if_pos c, if_pos c, a, b, a2, b2, sameS_self]
    simp
  · have hu : ofT p = ⟨p.proto, p.src, p.dst, get16 p.dat 0, get16 p.dat 2⟩ := by
      rcases ways with ⟨x, -⟩ | ⟨-, w⟩ | ⟨x, -⟩ | ⟨x, -⟩
      · omega
      · exact w
      all_goals omega
    obtain ⟨a, b⟩ := inn_udp hp ht c (by omega) z hu
    obtain ⟨a2, b2⟩ := hb.ud c
    rw [if_neg (by omega), if_pos c, if_neg (by omega), if_pos c, a, b, a2, b2, sameD_self]
    simp
  · have hu : ofT p = ⟨p.proto, p.src, p.dst, get16 p.dat 4, get16 p.dat 4⟩ := by
      rcases ways with ⟨x, -⟩ | ⟨x, -⟩ | ⟨-, -, w⟩ | ⟨x, -⟩
      · omega
      · omega
      · exact w
      · omega
    obtain ⟨a, b⟩ := inn_icmp hp ht c (by omega) z (hsp (by omega)) hu
    obtain ⟨a2, b2⟩ := hb.ic c
    rw [if_neg (by omega), if_neg (by omega), if_pos c, if_neg (by omega), if_neg (by omega), if_pos c, a, b, a2, b2, sameM_self]
    refine ⟨by simp, ?_⟩
    unfold picE
    have : isEchoM (icW p t) = true := ec
    rw [this]
    simp
  · obtain ⟨a, b⟩ := inn_gre hp ht c (by omega) z
    obtain ⟨a2, b2⟩ := hb.ge c
    rw [if_neg (by omega), if_neg (by omega), if_neg (by omega), if_neg (by omega), if_neg (by omega), if_neg (by omega), if_pos c, a, b, a2, b2, sameF_self]
    simp
theorem rdE_f {l : List UInt8} (h : rdE true l = 0) (h2 : get16 l 2 ≤ (l.length : Int)) : rdE false l = 0 := by
  unfold rdE at h ⊢
  have e : lenE true l = 0 := by
    split at h
    · rename_i c; exact absurd h c
    · rename_i c; simpa using c
  have e2 : lenE false l = 0 := by
    unfold lenE at e ⊢
    split at e
    · cases e
    rename_i c1
    split at e
    · cases e
    rename_i c2
    split at e
    · cases e
    rename_i c3
    split at e
    · cases e
    rename_i c4
    split at e
    · cases e
    rename_i c5
    rw [if_neg c1, if_neg c2, if_neg c3, if_neg c4, if_neg c5, if_neg (by rintro ⟨-, z⟩; omega)]
  rw [e, if_neg (by decide)] at h
  rw [e2, if_neg (by decide)]
  split at h
  · cases h
  rename_i c1
  split at h
  · cases h
  rename_i c2
  split at h
  · cases h
  rename_i c3
  rw [if_neg c1, if_neg c2, if_neg c3, if_neg (by simp)]
theorem rd_g2 {l : List UInt8} (h : rdE false l = 0) : get16 l 2 ≤ (l.length : Int) := by
  unfold rdE at h
  have e : lenE false l = 0 := by
    split at h
    · rename_i c; exact absurd h c
    · rename_i c; simpa using c
  unfold lenE at e
  split at e
  · cases e
  split at e
  · cases e
  split at e
  · cases e
  split at e
  · cases e
  split at e
  · cases e
  split at e
  · cases e
  rename_i c
  by_cases z : (l.length : Int) < get16 l 2
  · exact absurd ⟨rfl, z⟩ c
  · omega
theorem bt_appL {a : List UInt8} (b : List UInt8) {j : Nat} (h : j < a.length) : bt (a ++ b) j = bt a j := by
  unfold bt
  rw [List.getD_eq_getElem?_getD, List.getD_eq_getElem?_getD, List.getElem?_append_left h]
theorem rq_g2 {M : List UInt8} {h e : Nat} (u : Tup) {t : Tup} (ht : t.Ok) (h1 : 20 ≤ h) (h2 : h ≤ M.length) (h3 : h ≤ e) (h4 : e ≤ M.length) : get16 (rqDat M h e u t) 2 = get16 M 2 := by
  have o := (l4_ok (M := M) (h := h) ht h1 h2).far
  have l4 := rqL4_len M h t
  have lD := rqDat_len (h := h) u t h3 h4
  have b : ∀ j, j < 10 → bt (rqDat M h e u t) j = bt M j := fun j hj => by
    rw [← o j (.inl hj)]
    unfold rqDat
    have lt : ((rqL4 M h t).take h).length = h := by rw [List.length_take, l4]; omega
    rw [bt_appL _ (by rw [List.length_append, lt]; omega), bt_appL _ (by rw [lt]; omega), bt_take (by omega)]
  exact get16_congr (k := 2) (by omega) (by omega) (b _ (by omega)) (b _ (by omega))
def z9 : Pkt := ⟨0, 0, false, 7, 0, 9, 8, [], []⟩
def m9 (p : Pkt) : Msg := ⟨3, 0, 0, bdL p⟩
def o9 (p : Pkt) : Pkt := { z9 with proto := 1, dat := mS (m9 p) }
theorem m9_ok (p : Pkt) : (m9 p).Ok := ⟨by show (0 : Int) ≤ 3 ∧ (3 : Int) ≤ 255; decide, by show (0 : Int) ≤ 0 ∧ (0 : Int) ≤ 255; decide, by show (0 : Int) ≤ 0 ∧ (0 : Int) ≤ 4294967295; decide⟩
structure InOk (p : Pkt) (t : Tup) : Prop where
  rw : rwE p t = 0
  bi : wiE z9 (8 + (m9 p).dat.length) = 0
  out : withP z9 1 (mS (m9 p)) = o9 p
  rq : rqE (o9 p) 1 2 t = 0
  ie : icE (rqP (o9 p) 1 2 t) = 0
  rd : rdE false (icM (rqP (o9 p) 1 2 t)).dat = 0
  rk : rdPk false (icM (rqP (o9 p) 1 2 t)).dat = inP p t
  al : alikeB (inP p t) (rwP p t) = true
  oe : ofE (inP p t) = 0
  fm : ∃ V, rqP (o9 p) 1 2 t = ⟨0, 0, false, 7, 1, 1, 2, [], V⟩
  ln : (icM (rqP (o9 p) 1 2 t)).dat.length ≤ 65535 ∧ (rqP (o9 p) 1 2 t).dat.length ≤ 65535 ∧ (o9 p).dat.length ≤ 65535 ∧ (rwP p t).dat.length ≤ 65535 ∧ (inP p t).dat.length ≤ 65535
theorem inn_rw {p : Pkt} {t : Tup} (h : ofE p = 0) (hb : bdE p = 0) (htp : t.proto = p.proto) : rwE p t = 0 := by
  obtain ⟨n1, n2, n3⟩ := bdE_zero hb
  obtain ⟨o6, o17, o1, o47⟩ := rwE_of htp.symm h
  have key : ∀ n, n ≤ p.dat.length → wiE (rwQ p t) n = 0 := fun n hn => by
    have e : (rwQ p t).opt = p.opt := rfl
    unfold wiE; rw [e, if_neg (by omega), if_neg (by omega)]
  rcases own_ways h with ⟨c, z, -⟩ | ⟨c, z, -⟩ | ⟨c, z, -⟩ | ⟨c, z, -⟩
  · obtain ⟨a, b⟩ := tc_fit z
    rw [o6 c]
    unfold sbE
    have a' : okOs (tcW p t).opts = true := a
    rw [if_pos a']
    exact key _ b
  · rw [o17 c]
    exact key _ (Nat.le_of_eq (ud_fit z))
  · rw [o1 c]
    exact key _ (Nat.le_of_eq (ic_fit z))
  · obtain ⟨a, b, -⟩ := ge_fit z
    rw [o47 c]
    unfold bgE
    have a' : gBad (geW p t) = false := a
    rw [if_neg (by rw [a']; decide)]
    exact key _ (Nat.le_of_eq b)
theorem inn_all {p : Pkt} (hp : p.Ok) {t : Tup} (ht : t.Ok) (h : ofE p = 0) (hb : bdE p = 0) (hl : (bdL p).length ≤ 60000) (htp : t.proto = p.proto) (hsp : t.proto = 1 → t.sp ≠ 0) : InOk p t := by
  have hE := inn_rw h hb htp
  obtain ⟨al, oe⟩ := inn_told hp ht h htp hsp hE
  have bl := bdL_len hb
  obtain ⟨h8, -⟩ := of_ways p h
  have hm : (m9 p).dat = bdL p := rfl
  have bi : wiE z9 (8 + (m9 p).dat.length) = 0 := by
    rw [hm]
    unfold wiE
    have : z9.opt.length = 0 := rfl
    rw [this, if_neg (by omega), if_neg (by omega)]
  have out : withP z9 1 (mS (m9 p)) = o9 p := by unfold withP; rw [mS_len, if_pos bi]; rfl
  have tk : (bdL p).take (20 + p.opt.length + p.dat.length) = bdL p := List.take_of_length_le (by omega)
  have he : isErrM (m9 p) = true := rfl
  obtain ⟨e1, e2, -⟩ := err_told hp h hb h8 (Nat.le_refl _) z9 (m9 p) (m9_ok p) he (by rw [tk]; rfl)
  have e1' : quE (o9 p) = 0 := e1
  have e2' : quT (o9 p) = ofT p := e2
  obtain ⟨i1, i2⟩ := ic_back z9 (m9 p) (m9_ok p)
  have i1' : icE (o9 p) = 0 := i1
  have i2' : icM (o9 p) = m9 p := i2
  obtain ⟨c1, c2⟩ := quote_cut hp hb h8 (Nat.le_refl _)
  rw [tk] at c1 c2
  rw [List.take_length] at c2
  have c2' : rdPk true (bdL p) = p := c2
  have hM : (icM (o9 p)).dat = bdL p := by rw [i2']; rfl
  obtain ⟨d1, d2, d3⟩ := dat_told c1 (ofT p) t ht (rqD (o9 p) t) (by unfold rqD rqN rqH; rw [hM, e2'])
  rw [c2'] at d3
  obtain ⟨b1, b2, b3, b4, b5, b6⟩ := rq_bounds c1
  rw [c2'] at b1 b2
  have hp1 : (ofT p).proto = t.proto := by
    rw [htp]
    rcases own_ways h with ⟨-, -, e⟩ | ⟨-, -, e⟩ | ⟨-, -, -, e⟩ | ⟨-, -, e⟩ <;> rw [e]
  have rq : rqE (o9 p) 1 2 t = 0 := by
    unfold rqE
    rw [e1', e2', if_neg (by decide), if_neg (by rw [hp1]; simp)]
    show wiE _ (8 + (rqD (o9 p) t).length) = 0
    rw [d1]
    unfold wiE
    have : (rqQ (o9 p) 1 2).opt.length = 0 := rfl
    rw [this, if_neg (by omega), if_neg (by omega)]
  have rt := rq_told (sa := 1) (sb := 2) ht rq
  have im : (icM (rqP (o9 p) 1 2 t)).dat = rqD (o9 p) t := by rw [rt.im.2]; rfl
  have g2 : get16 (rqD (o9 p) t) 2 ≤ ((rqD (o9 p) t).length : Int) := by
    have e : get16 (rqD (o9 p) t) 2 = get16 (bdL p) 2 := by
      unfold rqD rqN rqH
      rw [hM, c2']
      exact rq_g2 _ ht (by omega) (by omega) (by omega) (by omega)
    have r := (rd_back hp hb []).1
    rw [List.append_nil] at r
    rw [e, d1]
    exact rd_g2 r
  have rd : rdE false (rqD (o9 p) t) = 0 := rdE_f d2 g2
  have rk : rdPk false (rqD (o9 p) t) = inP p t := by
    have a : rdPk true (rqD (o9 p) t) = rdP (rqD (o9 p) t) := by unfold rdPk; rw [if_pos d2]
    have b : rdPk false (rqD (o9 p) t) = rdP (rqD (o9 p) t) := by unfold rdPk; rw [if_pos rd]
    rw [b, ← a, d3]
    rfl
  obtain ⟨dd, hf, hdd⟩ := (rw_back hp ht hE).form
  refine ⟨hE, bi, out, rq, rt.im.1, by rw [im]; exact rd, by rw [im]; exact rk, al, oe, ⟨_, rt.form⟩, ?_, rt.small.1, ?_, ?_, ?_⟩
  · rw [im, d1]; omega
  · show (mS (m9 p)).length ≤ _; rw [mS_len, hm]; omega
  · rw [hf]; show dd.length ≤ _; omega
  · show (bodyB p.dat (ofT p) t).length ≤ _; rw [bodyB_len]; omega
theorem rbicmp_4 (p : Pkt) (A1 : Option Addr) (n1 c1 : Nat) (A2 : Option Addr) (n2 c2 : Nat) (m : Msg) (B1 : Option Addr) (m1 d1 : Nat) (w : World) (k1 : Bs w A1 n1 c1 p.opt) (j1 : Bs w B1 m1 d1 m.dat)
    (h : 40 < (n1 : Int) ∨ n1 % 4 ≠ 0) :
    Calls Tryz.prog 11 #[(.agg #[.int .u8 (p).tos, .int .u16 (p).id, .bool (p).keep, .int .u8 (p).ttl, .int .u8 (p).proto, .int .u32 (p).src, .int .u32 (p).dst, .slice A1 n1 c1, .slice A2 n2 c2]), (.agg #[.int .u8 (m).ty, .int .u8 (m).code, .int .u32 (m).rest, .slice B1 m1 d1])] w (WiPost w zP 4) := by
  have hw0 : ∀ W, Bs W A1 n1 c1 p.opt → Calls Tryz.prog 37 #[(.agg #[.int .u8 (p).tos, .int .u16 (p).id, .bool (p).keep, .int .u8 (p).ttl, .int .u8 (p).proto, .int .u32 (p).src, .int .u32 (p).dst, .slice A1 n1 c1, .slice A2 n2 c2]), .int .u8 1, .slice none 0 0] W (fun e w' => ∃ C1 e1 f1 C2 e2 f2, e = .returned (.tuple #[.agg #[.int .u8 0, .int .u16 0, .bool false, .int .u8 0, .int .u8 0, .int .u32 0, .int .u32 0, .slice C1 e1 f1, .slice C2 e2 f2], .int .i64 4]) ∧ Own w' W.heap.size 5 C1 e1 f1 [] ∧ Own w' W.heap.size 5 C2 e2 f2 [] ∧ Below W.heap.size W w') := fun W kk => by
    have hh := rwith_any p A1 n1 c1 A2 n2 c2 1 none 0 0 [] W kk (Bs.none_ W)
    unfold withP at hh
    rw [wiE_4 k1.len h, if_neg (by decide)] at hh
    exact hh.mono fun e w' hq => hq.out
  have b1 := j1.max
  obtain ⟨k, hk⟩ : ∃ k : Nat, w.heap.size = k := ⟨_, rfl⟩
  obtain ⟨w1, hw1⟩ : ∃ w1, ((w.alloc (.cells #[.int .u8 (p).tos, .int .u16 (p).id, .bool (p).keep, .int .u8 (p).ttl, .int .u8 (p).proto, .int .u32 (p).src, .int .u32 (p).dst, .slice A1 n1 c1, .slice A2 n2 c2] 26)).alloc (.cells #[.int .u8 (m).ty, .int .u8 (m).code, .int .u32 (m).rest, .slice B1 m1 d1] 42)).alloc (.cells #[.int .u8 0, .int .u16 0, .bool false, .int .u8 0, .int .u8 0, .int .u32 0, .int .u32 0, .slice none 0 0, .slice none 0 0] 26) = w1 := ⟨_, rfl⟩
  have P1 : Blk w1 k #[.int .u8 (p).tos, .int .u16 (p).id, .bool (p).keep, .int .u8 (p).ttl, .int .u8 (p).proto, .int .u32 (p).src, .int .u32 (p).dst, .slice A1 n1 c1, .slice A2 n2 c2] 26 := by rw [← hw1]; exact ((blk_new w _ _ k hk).alloc _).alloc _
  have M1 : Blk w1 (k + 1) #[.int .u8 (m).ty, .int .u8 (m).code, .int .u32 (m).rest, .slice B1 m1 d1] 42 := by rw [← hw1]; exact (blk_new _ _ _ (k + 1) (by simp [hk])).alloc _
  have Z1 : Blk w1 (k + 1 + 1) #[.int .u8 0, .int .u16 0, .bool false, .int .u8 0, .int .u8 0, .int .u32 0, .int .u32 0, .slice none 0 0, .slice none 0 0] 26 := by rw [← hw1]; exact blk_new _ _ _ (k + 1 + 1) (by simp [hk])
  have R1 : Below w.heap.size w w1 := by first | exact bw1 hw1 | exact bw2 hw1 | exact bw3 hw1 | exact bw4 hw1
  have x1 := k1.below R1
  have y1 := j1.below R1
  have pc := P1.cell
  have mc := M1.cell
  have kl1 := P1.lt
  have ml1 := M1.lt
  go_enter Tryz.func11, Tryz.ntmps11
  go_wp2_with (go_at_call 37; ((with_reducible refine (hw0 w1 x1).mono ?_); rintro e w4 ⟨C1, e1, f1, C2, e2, f2, rfl, O1, O2, hB4⟩); (obtain ⟨w5, hw5⟩ : ∃ w5, w4.alloc (.cells #[.int .u8 0, .int .u16 0, .bool false, .int .u8 0, .int .u8 0, .int .u32 0, .int .u32 0, .slice C1 e1 f1, .slice C2 e2 f2] 26) = w5 := ⟨_, rfl⟩); have V5 : Below w4.heap.size w4 w5 := (by first | exact bw1 hw5 | exact bw2 hw5 | exact bw3 hw5 | exact bw4 hw5); have T5 := below_then hB4 V5; have P5 := P1.below T5; have M5 := M1.below T5; have Z5 := Z1.below T5; have pc5 := P5.cell; have mc5 := M5.cell; have zc5 := Z5.cell; have kl5 := P5.lt; have ml5 := M5.lt)
  obtain ⟨wf, hwf, Sf⟩ := store9 Z5 (.int .u8 0) (.int .u16 0) (.bool false) (.int .u8 0) (.int .u8 0) (.int .u32 0) (.int .u32 0) (.slice none 0 0) (.slice none 0 0)
  rw [hwf]
  have pf := Sf.blk.cell
  exact bodyPost_ret (by simp [results, Tryz.results11, go_sem, pf]) rfl (wiPost_no (Sf.bel (below_then R1 T5) (by omega)))
theorem rbicmp_8 (p : Pkt) (A1 : Option Addr) (n1 c1 : Nat) (A2 : Option Addr) (n2 c2 : Nat) (m : Msg) (B1 : Option Addr) (m1 d1 : Nat) (w : World) (k1 : Bs w A1 n1 c1 p.opt) (j1 : Bs w B1 m1 d1 m.dat)
    (h1 : (n1 : Int) ≤ 40) (h2 : n1 % 4 = 0) (h3 : 65535 < 28 + (n1 : Int) + m1) :
    Calls Tryz.prog 11 #[(.agg #[.int .u8 (p).tos, .int .u16 (p).id, .bool (p).keep, .int .u8 (p).ttl, .int .u8 (p).proto, .int .u32 (p).src, .int .u32 (p).dst, .slice A1 n1 c1, .slice A2 n2 c2]), (.agg #[.int .u8 (m).ty, .int .u8 (m).code, .int .u32 (m).rest, .slice B1 m1 d1])] w (WiPost w zP 8) := by
  have hw0 : ∀ W, Bs W A1 n1 c1 p.opt → Calls Tryz.prog 37 #[(.agg #[.int .u8 (p).tos, .int .u16 (p).id, .bool (p).keep, .int .u8 (p).ttl, .int .u8 (p).proto, .int .u32 (p).src, .int .u32 (p).dst, .slice A1 n1 c1, .slice A2 n2 c2]), .int .u8 1, .slice none 0 0] W (fun e w' => ∃ C1 e1 f1 C2 e2 f2, e = .returned (.tuple #[.agg #[.int .u8 p.tos, .int .u16 p.id, .bool p.keep, .int .u8 p.ttl, .int .u8 1, .int .u32 p.src, .int .u32 p.dst, .slice C1 e1 f1, .slice C2 e2 f2], .int .i64 0]) ∧ Own w' W.heap.size 5 C1 e1 f1 p.opt ∧ Own w' W.heap.size 5 C2 e2 f2 [] ∧ Below W.heap.size W w') := fun W kk => by
    have hh := rwith_any p A1 n1 c1 A2 n2 c2 1 none 0 0 [] W kk (Bs.none_ W)
    unfold withP at hh
    rw [show ([] : List UInt8).length = 0 from rfl, wiE_0 k1.len h1 h2 (by omega), if_pos rfl] at hh
    exact hh.mono fun e w' hq => hq.out
  have b1 := j1.max
  obtain ⟨k, hk⟩ : ∃ k : Nat, w.heap.size = k := ⟨_, rfl⟩
  obtain ⟨w1, hw1⟩ : ∃ w1, ((w.alloc (.cells #[.int .u8 (p).tos, .int .u16 (p).id, .bool (p).keep, .int .u8 (p).ttl, .int .u8 (p).proto, .int .u32 (p).src, .int .u32 (p).dst, .slice A1 n1 c1, .slice A2 n2 c2] 26)).alloc (.cells #[.int .u8 (m).ty, .int .u8 (m).code, .int .u32 (m).rest, .slice B1 m1 d1] 42)).alloc (.cells #[.int .u8 0, .int .u16 0, .bool false, .int .u8 0, .int .u8 0, .int .u32 0, .int .u32 0, .slice none 0 0, .slice none 0 0] 26) = w1 := ⟨_, rfl⟩
  have P1 : Blk w1 k #[.int .u8 (p).tos, .int .u16 (p).id, .bool (p).keep, .int .u8 (p).ttl, .int .u8 (p).proto, .int .u32 (p).src, .int .u32 (p).dst, .slice A1 n1 c1, .slice A2 n2 c2] 26 := by rw [← hw1]; exact ((blk_new w _ _ k hk).alloc _).alloc _
  have M1 : Blk w1 (k + 1) #[.int .u8 (m).ty, .int .u8 (m).code, .int .u32 (m).rest, .slice B1 m1 d1] 42 := by rw [← hw1]; exact (blk_new _ _ _ (k + 1) (by simp [hk])).alloc _
  have Z1 : Blk w1 (k + 1 + 1) #[.int .u8 0, .int .u16 0, .bool false, .int .u8 0, .int .u8 0, .int .u32 0, .int .u32 0, .slice none 0 0, .slice none 0 0] 26 := by rw [← hw1]; exact blk_new _ _ _ (k + 1 + 1) (by simp [hk])
  have R1 : Below w.heap.size w w1 := by first | exact bw1 hw1 | exact bw2 hw1 | exact bw3 hw1 | exact bw4 hw1
  have x1 := k1.below R1
  have y1 := j1.below R1
  have pc := P1.cell
  have mc := M1.cell
  have kl1 := P1.lt
  have ml1 := M1.lt
  go_enter Tryz.func11, Tryz.ntmps11
  go_wp2_with (go_at_call 37; ((with_reducible refine (hw0 w1 x1).mono ?_); rintro e w4 ⟨C1, e1, f1, C2, e2, f2, rfl, O1, O2, hB4⟩); (obtain ⟨w5, hw5⟩ : ∃ w5, w4.alloc (.cells #[.int .u8 p.tos, .int .u16 p.id, .bool p.keep, .int .u8 p.ttl, .int .u8 1, .int .u32 p.src, .int .u32 p.dst, .slice C1 e1 f1, .slice C2 e2 f2] 26) = w5 := ⟨_, rfl⟩); have V5 : Below w4.heap.size w4 w5 := (by first | exact bw1 hw5 | exact bw2 hw5 | exact bw3 hw5 | exact bw4 hw5); have T5 := below_then hB4 V5; have P5 := P1.below T5; have M5 := M1.below T5; have Z5 := Z1.below T5; have pc5 := P5.cell; have mc5 := M5.cell; have zc5 := Z5.cell; have kl5 := P5.lt; have ml5 := M5.lt)
  obtain ⟨wf, hwf, Sf⟩ := store9 Z5 (.int .u8 0) (.int .u16 0) (.bool false) (.int .u8 0) (.int .u8 0) (.int .u32 0) (.int .u32 0) (.slice none 0 0) (.slice none 0 0)
  rw [hwf]
  have pf := Sf.blk.cell
  exact bodyPost_ret (by simp [results, Tryz.results11, go_sem, pf]) rfl (wiPost_no (Sf.bel (below_then R1 T5) (by omega)))
theorem rbicmp_0 (p : Pkt) (A1 : Option Addr) (n1 c1 : Nat) (A2 : Option Addr) (n2 c2 : Nat) (m : Msg) (hm : m.Ok) (B1 : Option Addr) (m1 d1 : Nat) (w : World) (k1 : Bs w A1 n1 c1 p.opt) (j1 : Bs w B1 m1 d1 m.dat)
    (h1 : (n1 : Int) ≤ 40) (h2 : n1 % 4 = 0) (h3 : 28 + (n1 : Int) + m1 ≤ 65535) :
    Calls Tryz.prog 11 #[(.agg #[.int .u8 (p).tos, .int .u16 (p).id, .bool (p).keep, .int .u8 (p).ttl, .int .u8 (p).proto, .int .u32 (p).src, .int .u32 (p).dst, .slice A1 n1 c1, .slice A2 n2 c2]), (.agg #[.int .u8 (m).ty, .int .u8 (m).code, .int .u32 (m).rest, .slice B1 m1 d1])] w (WiPost w { p with proto := 1, dat := mS m } 0) := by
  have hw0 : ∀ W, Bs W A1 n1 c1 p.opt → Calls Tryz.prog 37 #[(.agg #[.int .u8 (p).tos, .int .u16 (p).id, .bool (p).keep, .int .u8 (p).ttl, .int .u8 (p).proto, .int .u32 (p).src, .int .u32 (p).dst, .slice A1 n1 c1, .slice A2 n2 c2]), .int .u8 1, .slice none 0 0] W (fun e w' => ∃ C1 e1 f1 C2 e2 f2, e = .returned (.tuple #[.agg #[.int .u8 p.tos, .int .u16 p.id, .bool p.keep, .int .u8 p.ttl, .int .u8 1, .int .u32 p.src, .int .u32 p.dst, .slice C1 e1 f1, .slice C2 e2 f2], .int .i64 0]) ∧ Own w' W.heap.size 5 C1 e1 f1 p.opt ∧ Own w' W.heap.size 5 C2 e2 f2 [] ∧ Below W.heap.size W w') := fun W kk => by
    have hh := rwith_any p A1 n1 c1 A2 n2 c2 1 none 0 0 [] W kk (Bs.none_ W)
    unfold withP at hh
    rw [show ([] : List UInt8).length = 0 from rfl, wiE_0 k1.len h1 h2 (by omega), if_pos rfl] at hh
    exact hh.mono fun e w' hq => hq.out
  have hw1' : ∀ W A n c, Bs W A1 n1 c1 p.opt → Bs W A n c (mS m) → Calls Tryz.prog 37 #[(.agg #[.int .u8 (p).tos, .int .u16 (p).id, .bool (p).keep, .int .u8 (p).ttl, .int .u8 (p).proto, .int .u32 (p).src, .int .u32 (p).dst, .slice A1 n1 c1, .slice A2 n2 c2]), .int .u8 1, .slice A n c] W (fun e w' => ∃ C1 e1 f1 C2 e2 f2, e = .returned (.tuple #[.agg #[.int .u8 p.tos, .int .u16 p.id, .bool p.keep, .int .u8 p.ttl, .int .u8 1, .int .u32 p.src, .int .u32 p.dst, .slice C1 e1 f1, .slice C2 e2 f2], .int .i64 0]) ∧ Own w' W.heap.size 5 C1 e1 f1 p.opt ∧ Own w' W.heap.size 5 C2 e2 f2 (mS m) ∧ Below W.heap.size W w') := fun W A n c kk ks => by
    have hh := rwith_any p A1 n1 c1 A2 n2 c2 1 A n c (mS m) W kk ks
    unfold withP at hh
    rw [mS_len, j1.len, wiE_0 k1.len h1 h2 (by omega), if_pos rfl] at hh
    exact hh.mono fun e w' hq => hq.out
  have b1 := j1.max
  have jl := j1.len
  obtain ⟨⟨t0, t1⟩, ⟨u0, u1⟩, ⟨r0, r1⟩⟩ := hm
  have L4 := fun W => lit4 (e := 5) (x := m.ty) (y := m.code) (z := 0) (u := 0) t0 t1 u0 u1 (by omega) (by omega) (by omega) (by omega) W
  have HM : Hid ([ub m.ty, ub m.code, ub 0, ub 0] ++ four m.rest ++ m.dat = mL m) := rfl
  have HS : Hid (put16 (mL m) 2 (csum (mL m)) = mS m) := rfl
  have HL : Hid ((mL m).length = 8 + m1) := by unfold Hid; rw [mL_len, jl]
  clear jl
  obtain ⟨k, hk⟩ : ∃ k : Nat, w.heap.size = k := ⟨_, rfl⟩
  obtain ⟨w1, hw1⟩ : ∃ w1, ((w.alloc (.cells #[.int .u8 (p).tos, .int .u16 (p).id, .bool (p).keep, .int .u8 (p).ttl, .int .u8 (p).proto, .int .u32 (p).src, .int .u32 (p).dst, .slice A1 n1 c1, .slice A2 n2 c2] 26)).alloc (.cells #[.int .u8 (m).ty, .int .u8 (m).code, .int .u32 (m).rest, .slice B1 m1 d1] 42)).alloc (.cells #[.int .u8 0, .int .u16 0, .bool false, .int .u8 0, .int .u8 0, .int .u32 0, .int .u32 0, .slice none 0 0, .slice none 0 0] 26) = w1 := ⟨_, rfl⟩
  have P1 : Blk w1 k #[.int .u8 (p).tos, .int .u16 (p).id, .bool (p).keep, .int .u8 (p).ttl, .int .u8 (p).proto, .int .u32 (p).src, .int .u32 (p).dst, .slice A1 n1 c1, .slice A2 n2 c2] 26 := by rw [← hw1]; exact ((blk_new w _ _ k hk).alloc _).alloc _
  have M1 : Blk w1 (k + 1) #[.int .u8 (m).ty, .int .u8 (m).code, .int .u32 (m).rest, .slice B1 m1 d1] 42 := by rw [← hw1]; exact (blk_new _ _ _ (k + 1) (by simp [hk])).alloc _
  have Z1 : Blk w1 (k + 1 + 1) #[.int .u8 0, .int .u16 0, .bool false, .int .u8 0, .int .u8 0, .int .u32 0, .int .u32 0, .slice none 0 0, .slice none 0 0] 26 := by rw [← hw1]; exact blk_new _ _ _ (k + 1 + 1) (by simp [hk])
  have R1 : Below w.heap.size w w1 := by first | exact bw1 hw1 | exact bw2 hw1 | exact bw3 hw1 | exact bw4 hw1
  have x1 := k1.below R1
  have y1 := j1.below R1
  have pc := P1.cell
  have mc := M1.cell
  have kl1 := P1.lt
  have ml1 := M1.lt
  go_enter Tryz.func11, Tryz.ntmps11
  go_wp2_with (go_at_call 37; ((with_reducible refine (hw0 w1 x1).mono ?_); rintro e w4 ⟨C1, e1, f1, C2, e2, f2, rfl, O1, O2, hB4⟩); (obtain ⟨w5, hw5⟩ : ∃ w5, w4.alloc (.cells #[.int .u8 p.tos, .int .u16 p.id, .bool p.keep, .int .u8 p.ttl, .int .u8 1, .int .u32 p.src, .int .u32 p.dst, .slice C1 e1 f1, .slice C2 e2 f2] 26) = w5 := ⟨_, rfl⟩); have V5 : Below w4.heap.size w4 w5 := (by first | exact bw1 hw5 | exact bw2 hw5 | exact bw3 hw5 | exact bw4 hw5); have T5 := below_then hB4 V5; have P5 := P1.below T5; have M5 := M1.below T5; have Z5 := Z1.below T5; have pc5 := P5.cell; have mc5 := M5.cell; have zc5 := Z5.cell; have kl5 := P5.lt; have ml5 := M5.lt)
  obtain ⟨w6, hw6⟩ : ∃ w6, w5.alloc (.cells #[.int .u8 m.ty, .int .u8 m.code, .int .u8 0, .int .u8 0] 5) = w6 := ⟨_, rfl⟩
  have OL := L4 w5
  have V6 : Below w5.heap.size w5 w6 := by first | exact bw1 hw6 | exact bw2 hw6 | exact bw3 hw6 | exact bw4 hw6
  rw [hw6] at OL ⊢
  have M6 := M5.below V6
  have P6 := P5.below V6
  have Z6 := Z5.below V6
  have T6 := below_then T5 V6
  have y6 := y1.below T6
  have v6s := V6.size
  clear hw6 hw5 pc5 mc5 zc5 pc mc
  refine region_txt 7 (by kernel_rfl) (by kernel_rfl) ?_; (iterate 7 (first | (apply ObsK.skip (by rfl)) | (apply ObsK.v (by rfl); (intro wo hT; (repeat (first | (intro v hv; (fail)) | (intro _ _ k; try have hcv := cv k))); (have mc := (M6.below hT).cell; have hsz : w5.heap.size ≤ wo.heap.size := Nat.le_trans v6s hT.size); refine Goes.mk ?_; first | (exact goes_app _ _ rfl rfl (OL.below hT) rfl (by assumption) (by omega) hsz) | (go_simp; first | exact goes_v | exact goes_b (by assumption) | fail | (refine goes_enter ?_; first | (go_at_call 38; ((with_reducible refine (four_any m.rest r0 r1 wo).mono ?_); rintro e w9 ⟨A9, c9, rfl, ho9, hB9⟩); exact ret_b ho9.bs hB9))))) | (apply ObsK.b (by rfl); (intro wo hT; (repeat (first | (intro v hv; (fail)) | (intro _ _ k; try have hcv := cv k))); (have mc := (M6.below hT).cell; have hsz : w5.heap.size ≤ wo.heap.size := Nat.le_trans v6s hT.size); refine Goes.mk ?_; first | (exact goes_app _ _ rfl rfl (OL.below hT) rfl (by assumption) (by omega) hsz) | (go_simp; first | exact goes_v | exact goes_b (by assumption) | fail | (refine goes_enter ?_; first | (go_at_call 38; ((with_reducible refine (four_any m.rest r0 r1 wo).mono ?_); rintro e w9 ⟨A9, c9, rfl, ho9, hB9⟩); exact ret_b ho9.bs hB9))))) | (apply ObsK.p (q := isW w5.heap.size _) (by rfl) st_isW; (intro wo hT; (repeat (first | (intro v hv; (fail)) | (intro _ _ k; try have hcv := cv k))); (have mc := (M6.below hT).cell; have hsz : w5.heap.size ≤ wo.heap.size := Nat.le_trans v6s hT.size); refine Goes.mk ?_; first | (exact goes_app _ _ rfl rfl (OL.below hT) rfl (by assumption) (by omega) hsz) | (go_simp; first | exact goes_v | exact goes_b (by assumption) | fail | (refine goes_enter ?_; first | (go_at_call 38; ((with_reducible refine (four_any m.rest r0 r1 wo).mono ?_); rintro e w9 ⟨A9, c9, rfl, ho9, hB9⟩); exact ret_b ho9.bs hB9))))))); refine ObsK.nil ?_; intro wz hBz; simp only [finOn, List.drop_succ_cons, List.drop_zero, List.drop_nil]
  rintro v7 ⟨A7, n7, c7, rfl, O7⟩ A9 c9 k9
  go_simp
  have u7 : n7 = 8 := by rw [← O7.len]; rfl
  subst u7
  have y7 := y6.below hBz
  have V7 := below_then V6 hBz
  go_wp2_with (first
    | (at_builtin; refine wpList_append_bs (w0 := w5) _ rfl _ _ _ rfl w5.heap.size 5 Tryz.underlying24 info_u8 A7 8 c7 _ rfl O7 B1 m1 d1 m.dat rfl y7 V7 (by omega) (by first | exact Nat.le_refl _ | exact Below.size V7 | omega | (simp <;> omega)) ?_; intro A8 n8 c8 w8 ho8 hB8 _ hz8; rw [HM.out] at ho8))
  have T8 := below_then T5 hB8
  have P8 := P1.below T8
  have Z8 := Z1.below T8
  have x8 := x1.below T8
  have o8 := ho8.bs
  have l8 : n8 ≤ 65535 := by rw [← ho8.len, HL.out]; omega
  refine region_txt 8 (by kernel_rfl) (by kernel_rfl) ?_; (iterate 8 (first | (apply ObsK.skip (by rfl)) | (apply ObsK.v (by rfl); (intro wo hT; (repeat (first | (intro v hv; ((first | (obtain ⟨A11, n11, c11, rfl, o11⟩ := hv; have ob11 := o11.bs) | (obtain ⟨D1, g1, h1', D2, g2, h2', rfl, o13, o14⟩ := hv)))) | (intro _ _ k; try have hcv := cv k))); (have qc := (P8.below hT).cell; have bo := o8.below hT; have xo := x8.below hT; have hsz : w8.heap.size ≤ wo.heap.size := hT.size); refine Goes.mk ?_; go_simp; first | exact goes_v | exact goes_b (by assumption) | exact goes_pk (P := { p with proto := 1, dat := mS m }) (by assumption) (by assumption) | (refine goes_enter ?_; first | (go_at_call 27; ((with_reducible refine (rsum_any A8 n8 c8 (mL m) (by omega) wo bo).mono ?_); rintro e w9 ⟨rfl, hB9⟩); exact ret_v hB9) | (go_at_call 26; ((with_reducible refine (rput16_any A8 n8 c8 (mL m) 2 _ (csum_lo _) (csum_hi _) wo bo).mono ?_); rintro e w9 ⟨A9, c9, rfl, ho9, hB9⟩); rw [HS.out] at ho9; exact ret_p (own_isW ho9 hsz) hB9) | (go_at_call 37; ((with_reducible refine (hw1' wo A11 n11 c11 xo ob11).mono ?_); rintro e w12 ⟨D1, g1, h1', D2, g2, h2', rfl, O13, O14, hB12⟩); exact ret_tup (P := { p with proto := 1, dat := mS m }) (O13.mono hsz) (O14.mono hsz) hB12)))) | (apply ObsK.b (by rfl); (intro wo hT; (repeat (first | (intro v hv; ((first | (obtain ⟨A11, n11, c11, rfl, o11⟩ := hv; have ob11 := o11.bs) | (obtain ⟨D1, g1, h1', D2, g2, h2', rfl, o13, o14⟩ := hv)))) | (intro _ _ k; try have hcv := cv k))); (have qc := (P8.below hT).cell; have bo := o8.below hT; have xo := x8.below hT; have hsz : w8.heap.size ≤ wo.heap.size := hT.size); refine Goes.mk ?_; go_simp; first | exact goes_v | exact goes_b (by assumption) | exact goes_pk (P := { p with proto := 1, dat := mS m }) (by assumption) (by assumption) | (refine goes_enter ?_; first | (go_at_call 27; ((with_reducible refine (rsum_any A8 n8 c8 (mL m) (by omega) wo bo).mono ?_); rintro e w9 ⟨rfl, hB9⟩); exact ret_v hB9) | (go_at_call 26; ((with_reducible refine (rput16_any A8 n8 c8 (mL m) 2 _ (csum_lo _) (csum_hi _) wo bo).mono ?_); rintro e w9 ⟨A9, c9, rfl, ho9, hB9⟩); rw [HS.out] at ho9; exact ret_p (own_isW ho9 hsz) hB9) | (go_at_call 37; ((with_reducible refine (hw1' wo A11 n11 c11 xo ob11).mono ?_); rintro e w12 ⟨D1, g1, h1', D2, g2, h2', rfl, O13, O14, hB12⟩); exact ret_tup (P := { p with proto := 1, dat := mS m }) (O13.mono hsz) (O14.mono hsz) hB12)))) | (apply ObsK.p (q := isW w8.heap.size _) (by rfl) st_isW; (intro wo hT; (repeat (first | (intro v hv; ((first | (obtain ⟨A11, n11, c11, rfl, o11⟩ := hv; have ob11 := o11.bs) | (obtain ⟨D1, g1, h1', D2, g2, h2', rfl, o13, o14⟩ := hv)))) | (intro _ _ k; try have hcv := cv k))); (have qc := (P8.below hT).cell; have bo := o8.below hT; have xo := x8.below hT; have hsz : w8.heap.size ≤ wo.heap.size := hT.size); refine Goes.mk ?_; go_simp; first | exact goes_v | exact goes_b (by assumption) | exact goes_pk (P := { p with proto := 1, dat := mS m }) (by assumption) (by assumption) | (refine goes_enter ?_; first | (go_at_call 27; ((with_reducible refine (rsum_any A8 n8 c8 (mL m) (by omega) wo bo).mono ?_); rintro e w9 ⟨rfl, hB9⟩); exact ret_v hB9) | (go_at_call 26; ((with_reducible refine (rput16_any A8 n8 c8 (mL m) 2 _ (csum_lo _) (csum_hi _) wo bo).mono ?_); rintro e w9 ⟨A9, c9, rfl, ho9, hB9⟩); rw [HS.out] at ho9; exact ret_p (own_isW ho9 hsz) hB9) | (go_at_call 37; ((with_reducible refine (hw1' wo A11 n11 c11 xo ob11).mono ?_); rintro e w12 ⟨D1, g1, h1', D2, g2, h2', rfl, O13, O14, hB12⟩); exact ret_tup (P := { p with proto := 1, dat := mS m }) (O13.mono hsz) (O14.mono hsz) hB12)))) | (apply ObsK.p (q := isTup w8.heap.size { p with proto := 1, dat := mS m } 0) (by rfl) st_isTup; (intro wo hT; (repeat (first | (intro v hv; ((first | (obtain ⟨A11, n11, c11, rfl, o11⟩ := hv; have ob11 := o11.bs) | (obtain ⟨D1, g1, h1', D2, g2, h2', rfl, o13, o14⟩ := hv)))) | (intro _ _ k; try have hcv := cv k))); (have qc := (P8.below hT).cell; have bo := o8.below hT; have xo := x8.below hT; have hsz : w8.heap.size ≤ wo.heap.size := hT.size); refine Goes.mk ?_; go_simp; first | exact goes_v | exact goes_b (by assumption) | exact goes_pk (P := { p with proto := 1, dat := mS m }) (by assumption) (by assumption) | (refine goes_enter ?_; first | (go_at_call 27; ((with_reducible refine (rsum_any A8 n8 c8 (mL m) (by omega) wo bo).mono ?_); rintro e w9 ⟨rfl, hB9⟩); exact ret_v hB9) | (go_at_call 26; ((with_reducible refine (rput16_any A8 n8 c8 (mL m) 2 _ (csum_lo _) (csum_hi _) wo bo).mono ?_); rintro e w9 ⟨A9, c9, rfl, ho9, hB9⟩); rw [HS.out] at ho9; exact ret_p (own_isW ho9 hsz) hB9) | (go_at_call 37; ((with_reducible refine (hw1' wo A11 n11 c11 xo ob11).mono ?_); rintro e w12 ⟨D1, g1, h1', D2, g2, h2', rfl, O13, O14, hB12⟩); exact ret_tup (P := { p with proto := 1, dat := mS m }) (O13.mono hsz) (O14.mono hsz) hB12)))) | (apply ObsK.p (q := isPk w8.heap.size { p with proto := 1, dat := mS m }) (by rfl) st_isPk; (intro wo hT; (repeat (first | (intro v hv; ((first | (obtain ⟨A11, n11, c11, rfl, o11⟩ := hv; have ob11 := o11.bs) | (obtain ⟨D1, g1, h1', D2, g2, h2', rfl, o13, o14⟩ := hv)))) | (intro _ _ k; try have hcv := cv k))); (have qc := (P8.below hT).cell; have bo := o8.below hT; have xo := x8.below hT; have hsz : w8.heap.size ≤ wo.heap.size := hT.size); refine Goes.mk ?_; go_simp; first | exact goes_v | exact goes_b (by assumption) | exact goes_pk (P := { p with proto := 1, dat := mS m }) (by assumption) (by assumption) | (refine goes_enter ?_; first | (go_at_call 27; ((with_reducible refine (rsum_any A8 n8 c8 (mL m) (by omega) wo bo).mono ?_); rintro e w9 ⟨rfl, hB9⟩); exact ret_v hB9) | (go_at_call 26; ((with_reducible refine (rput16_any A8 n8 c8 (mL m) 2 _ (csum_lo _) (csum_hi _) wo bo).mono ?_); rintro e w9 ⟨A9, c9, rfl, ho9, hB9⟩); rw [HS.out] at ho9; exact ret_p (own_isW ho9 hsz) hB9) | (go_at_call 37; ((with_reducible refine (hw1' wo A11 n11 c11 xo ob11).mono ?_); rintro e w12 ⟨D1, g1, h1', D2, g2, h2', rfl, O13, O14, hB12⟩); exact ret_tup (P := { p with proto := 1, dat := mS m }) (O13.mono hsz) (O14.mono hsz) hB12)))))); refine ObsK.nil ?_; intro wz hBz; simp only [finOn, List.drop_succ_cons, List.drop_zero, List.drop_nil]
  rintro v12 ⟨D1, g1, h1', D2, g2, h2', rfl, O13, O14⟩ v13 hv13 v14 hv14
  clear hv13 hv14
  go_simp
  have T11 := below_then T8 hBz
  have Z12 := Z8.below hBz
  have zc12 := Z12.cell
  have zl8 := Z8.lt
  go_wp2_with fail
  obtain ⟨wf, hwf, Sf⟩ := store9 Z12 (.int .u8 p.tos) (.int .u16 p.id) (.bool p.keep) (.int .u8 p.ttl) (.int .u8 1) (.int .u32 p.src) (.int .u32 p.dst) (.slice D1 g1 h1') (.slice D2 g2 h2')
  rw [hwf]
  have pf := Sf.blk.cell
  have Of := Sf.own O13 (fun a e => by have := O13.ge a e; omega)
  have Df := Sf.own O14 (fun a e => by have := O14.ge a e; omega)
  have s11 := (below_then R1 T8).size
  refine bodyPost_ret (v := .tuple #[.agg #[.int .u8 p.tos, .int .u16 p.id, .bool p.keep, .int .u8 p.ttl, .int .u8 1, .int .u32 p.src, .int .u32 p.dst, .slice D1 g1 h1', .slice D2 g2 h2'], .int .i64 0]) (by simp [results, Tryz.results11, go_sem, pf]) rfl ⟨⟨D1, g1, h1', D2, g2, h2', rfl, Of.mono s11, Df.mono s11, Sf.bel (below_then R1 T11) (by omega)⟩⟩
theorem rbicmp_any (p : Pkt) (A1 : Option Addr) (n1 c1 : Nat) (A2 : Option Addr) (n2 c2 : Nat) (m : Msg) (hm : m.Ok) (B1 : Option Addr) (m1 d1 : Nat) (w : World) (k1 : Bs w A1 n1 c1 p.opt) (j1 : Bs w B1 m1 d1 m.dat) :
    Calls Tryz.prog 11 #[(.agg #[.int .u8 (p).tos, .int .u16 (p).id, .bool (p).keep, .int .u8 (p).ttl, .int .u8 (p).proto, .int .u32 (p).src, .int .u32 (p).dst, .slice A1 n1 c1, .slice A2 n2 c2]), (.agg #[.int .u8 (m).ty, .int .u8 (m).code, .int .u32 (m).rest, .slice B1 m1 d1])] w (WiPost w (withP p 1 (mS m)) (wiE p (8 + m.dat.length))) := by
  have l1 := k1.len
  unfold withP
  rw [mS_len, j1.len]
  by_cases h1 : (n1 : Int) ≤ 40
  · by_cases h2 : n1 % 4 = 0
    · by_cases h3 : 28 + (n1 : Int) + m1 ≤ 65535
      · rw [wiE_0 l1 h1 h2 (by omega), if_pos rfl]
        exact rbicmp_0 p A1 n1 c1 A2 n2 c2 m hm B1 m1 d1 w k1 j1 h1 h2 h3
      · rw [wiE_8 l1 h1 h2 (by omega), if_neg (by decide)]
        exact rbicmp_8 p A1 n1 c1 A2 n2 c2 m B1 m1 d1 w k1 j1 h1 h2 (by omega)
    · rw [wiE_4 l1 (.inr h2), if_neg (by decide)]
      exact rbicmp_4 p A1 n1 c1 A2 n2 c2 m B1 m1 d1 w k1 j1 (.inr h2)
  · rw [wiE_4 l1 (.inl (by omega)), if_neg (by decide)]
    exact rbicmp_4 p A1 n1 c1 A2 n2 c2 m B1 m1 d1 w k1 j1 (.inl (by omega))
theorem sx_isTup {B : Nat} {P : Pkt} {E : Int} {g : Nat} (hg : g < B) : ∀ w w' v, isTup B P E w v → w.grownBy w' (some g) → isTup B P E w' v := fun _ _ _ ⟨A, b, c, d, e, f, h, k, l⟩ hE => ⟨A, b, c, d, e, f, h, k.far hE (fun k e => by injection e with e; omega), l.far hE (fun k e => by injection e with e; omega)⟩
theorem sx_isPk {B : Nat} {P : Pkt} {g : Nat} (hg : g < B) : ∀ w w' v, isPk B P w v → w.grownBy w' (some g) → isPk B P w' v := fun _ _ _ ⟨A, b, c, d, e, f, h, k, l⟩ hE => ⟨A, b, c, d, e, f, h, k.far hE (fun k e => by injection e with e; omega), l.far hE (fun k e => by injection e with e; omega)⟩
theorem rbg_ok00 (p : Pkt) (A1 : Option Addr) (n1 c1 : Nat) (A2 : Option Addr) (n2 c2 : Nat) (call : Int) (seq ack : Int) (hsq : (seq != 0) = false) (hac : (ack != 0) = false) (dat : List UInt8) (B1 : Option Addr) (m1 d1 : Nat) (w : World) (k1 : Bs w A1 n1 c1 p.opt) (j1 : Bs w B1 m1 d1 dat)
    (hca : 0 ≤ call ∧ call ≤ 65535) (hse : 0 ≤ seq ∧ seq ≤ 4294967295) (hak : 0 ≤ ack ∧ ack ≤ 4294967295) (h1 : (n1 : Int) ≤ 40) (h2 : n1 % 4 = 0) (Q : Pkt) (E : Int) (h3 : 20 + (n1 : Int) + 8 + m1 ≤ 65535) (hok : ∀ W A n c, Bs W A1 n1 c1 p.opt → Bs W A n c ((grB false false ++ two ((m1 : Int) % 65536) ++ two call) ++ dat) → Calls Tryz.prog 37 #[(.agg #[.int .u8 (p).tos, .int .u16 (p).id, .bool (p).keep, .int .u8 (p).ttl, .int .u8 (p).proto, .int .u32 (p).src, .int .u32 (p).dst, .slice A1 n1 c1, .slice A2 n2 c2]), .int .u8 47, .slice A n c] W (WiPost W Q E)) :
    Calls Tryz.prog 43 #[(.agg #[.int .u8 (p).tos, .int .u16 (p).id, .bool (p).keep, .int .u8 (p).ttl, .int .u8 (p).proto, .int .u32 (p).src, .int .u32 (p).dst, .slice A1 n1 c1, .slice A2 n2 c2]), .agg #[.int .u16 call, .bool false, .bool false, .int .u32 seq, .int .u32 ack, .slice B1 m1 d1]] w (WiPost w Q E) := by
  have hw0 : ∀ W, Bs W A1 n1 c1 p.opt → Calls Tryz.prog 37 #[(.agg #[.int .u8 (p).tos, .int .u16 (p).id, .bool (p).keep, .int .u8 (p).ttl, .int .u8 (p).proto, .int .u32 (p).src, .int .u32 (p).dst, .slice A1 n1 c1, .slice A2 n2 c2]), .int .u8 47, .slice none 0 0] W (fun e w' => ∃ C1 e1 f1 C2 e2 f2, e = .returned (.tuple #[.agg #[.int .u8 p.tos, .int .u16 p.id, .bool p.keep, .int .u8 p.ttl, .int .u8 47, .int .u32 p.src, .int .u32 p.dst, .slice C1 e1 f1, .slice C2 e2 f2], .int .i64 0]) ∧ Own w' W.heap.size 5 C1 e1 f1 p.opt ∧ Own w' W.heap.size 5 C2 e2 f2 [] ∧ Below W.heap.size W w') := fun W kk => by
    have hh := rwith_any p A1 n1 c1 A2 n2 c2 47 none 0 0 [] W kk (Bs.none_ W)
    unfold withP at hh
    rw [show ([] : List UInt8).length = 0 from rfl, wiE_0 k1.len h1 h2 (by omega), if_pos rfl] at hh
    exact hh.mono fun e w' hq => hq.out
  have b1 := j1.max
  obtain ⟨ca0, ca1⟩ := hca
  obtain ⟨se0, se1⟩ := hse
  obtain ⟨ak0, ak1⟩ := hak
  obtain ⟨z, hz⟩ : ∃ z : Int, (m1 : Int) % 65536 = z := ⟨_, rfl⟩
  have z0 : 0 ≤ z := by omega
  have z1 : z ≤ 65535 := by omega
  have hzw : IntKind.u16.wrap (m1 : Int) = z := by rw [← hz]; simp [IntKind.wrap, IntKind.signed, IntKind.bits]
  rw [hz] at hok
  have L4 := fun W => lit4 (e := 5) (x := 32) (y := 1) (z := 136) (u := 11) (by omega) (by omega) (by omega) (by omega) (by omega) (by omega) (by omega) (by omega) W
  have H0 : Hid ([ub 32, ub 1, ub 136, ub 11] ++ two z ++ two call = grB false false ++ two z ++ two call) := rfl
  obtain ⟨k, hk⟩ : ∃ k : Nat, w.heap.size = k := ⟨_, rfl⟩
  obtain ⟨w1, hw1⟩ : ∃ w1, ((w.alloc (.cells #[.int .u8 (p).tos, .int .u16 (p).id, .bool (p).keep, .int .u8 (p).ttl, .int .u8 (p).proto, .int .u32 (p).src, .int .u32 (p).dst, .slice A1 n1 c1, .slice A2 n2 c2] 26)).alloc (.cells #[.int .u16 call, .bool false, .bool false, .int .u32 seq, .int .u32 ack, .slice B1 m1 d1] 68)).alloc (.cells #[.int .u8 0, .int .u16 0, .bool false, .int .u8 0, .int .u8 0, .int .u32 0, .int .u32 0, .slice none 0 0, .slice none 0 0] 26) = w1 := ⟨_, rfl⟩
  have P1 : Blk w1 k #[.int .u8 (p).tos, .int .u16 (p).id, .bool (p).keep, .int .u8 (p).ttl, .int .u8 (p).proto, .int .u32 (p).src, .int .u32 (p).dst, .slice A1 n1 c1, .slice A2 n2 c2] 26 := by rw [← hw1]; exact ((blk_new w _ _ k hk).alloc _).alloc _
  have F1 : Blk w1 (k + 1) #[.int .u16 call, .bool false, .bool false, .int .u32 seq, .int .u32 ack, .slice B1 m1 d1] 68 := by rw [← hw1]; exact (blk_new _ _ _ (k + 1) (by simp [hk])).alloc _
  have Z1 : Blk w1 (k + 1 + 1) #[.int .u8 0, .int .u16 0, .bool false, .int .u8 0, .int .u8 0, .int .u32 0, .int .u32 0, .slice none 0 0, .slice none 0 0] 26 := by rw [← hw1]; exact blk_new _ _ _ (k + 1 + 1) (by simp [hk])
  have R1 : Below w.heap.size w w1 := by first | exact bw1 hw1 | exact bw2 hw1 | exact bw3 hw1 | exact bw4 hw1
  have x1 := k1.below R1
  have y1 := j1.below R1
  have pc := P1.cell
  have mc := F1.cell
  have zc := Z1.cell
  have zl1 := Z1.lt
  go_enter Tryz.func43, Tryz.ntmps43
  go_wp2_with (go_at_call 37; ((with_reducible refine (hw0 w1 x1).mono ?_); rintro e w4 ⟨C1, e1, f1, C2, e2, f2, rfl, O1, O2, hB4⟩); (obtain ⟨w5, hw5⟩ : ∃ w5, w4.alloc (.cells #[.int .u8 p.tos, .int .u16 p.id, .bool p.keep, .int .u8 p.ttl, .int .u8 47, .int .u32 p.src, .int .u32 p.dst, .slice C1 e1 f1, .slice C2 e2 f2] 26) = w5 := ⟨_, rfl⟩); have V5 : Below w4.heap.size w4 w5 := (by first | exact bw1 hw5 | exact bw2 hw5 | exact bw3 hw5 | exact bw4 hw5); have T5 := below_then hB4 V5; have P5 := P1.below T5; have F5 := F1.below T5; have Z5 := Z1.below T5; have zc5 := Z5.cell)
  obtain ⟨w6, hw6⟩ : ∃ w6, w5.alloc (.cells #[.int .u8 32, .int .u8 1, .int .u8 136, .int .u8 11] 5) = w6 := ⟨_, rfl⟩
  have OL := L4 w5
  have V6 : Below w5.heap.size w5 w6 := by first | exact bw1 hw6 | exact bw2 hw6 | exact bw3 hw6 | exact bw4 hw6
  rw [hw6] at OL ⊢
  have T6 := below_then T5 V6
  have F6 := F1.below T6
  have v6s := V6.size
  have v5s := T5.size
  have zl5 := Z5.lt
  clear hw6 hw5 zc5 pc mc zc hw1
  refine region_txt 10 (by kernel_rfl) (by kernel_rfl) ?_; (iterate 10 (first | (apply ObsK.skip (by rfl)) | (apply ObsK.v (by rfl); (intro wo hT; (repeat (first | (intro v hv; (fail)) | (intro _ _ k; try have hcv := cv k))); (have mc := (F6.below hT).cell; have hsz : w5.heap.size ≤ wo.heap.size := Nat.le_trans v6s hT.size); refine Goes.mk ?_; first | (exact goes_app _ _ rfl rfl (OL.below hT) rfl (by assumption) (by omega) hsz) | (go_simp; first | exact goes_v | exact goes_b (by assumption) | fail | (refine goes_enter ?_; first | (go_at_call 70; ((with_reducible refine (two_any z z0 z1 wo).mono ?_); rintro e w9 ⟨A9, c9, rfl, ho9, hB9⟩); exact ret_b ho9.bs hB9) | (go_at_call 70; ((with_reducible refine (two_any call ca0 ca1 wo).mono ?_); rintro e w9 ⟨A9, c9, rfl, ho9, hB9⟩); exact ret_b ho9.bs hB9))))) | (apply ObsK.b (by rfl); (intro wo hT; (repeat (first | (intro v hv; (fail)) | (intro _ _ k; try have hcv := cv k))); (have mc := (F6.below hT).cell; have hsz : w5.heap.size ≤ wo.heap.size := Nat.le_trans v6s hT.size); refine Goes.mk ?_; first | (exact goes_app _ _ rfl rfl (OL.below hT) rfl (by assumption) (by omega) hsz) | (go_simp; first | exact goes_v | exact goes_b (by assumption) | fail | (refine goes_enter ?_; first | (go_at_call 70; ((with_reducible refine (two_any z z0 z1 wo).mono ?_); rintro e w9 ⟨A9, c9, rfl, ho9, hB9⟩); exact ret_b ho9.bs hB9) | (go_at_call 70; ((with_reducible refine (two_any call ca0 ca1 wo).mono ?_); rintro e w9 ⟨A9, c9, rfl, ho9, hB9⟩); exact ret_b ho9.bs hB9))))) | (apply ObsK.p (q := isW w5.heap.size _) (by rfl) st_isW; (intro wo hT; (repeat (first | (intro v hv; (fail)) | (intro _ _ k; try have hcv := cv k))); (have mc := (F6.below hT).cell; have hsz : w5.heap.size ≤ wo.heap.size := Nat.le_trans v6s hT.size); refine Goes.mk ?_; first | (exact goes_app _ _ rfl rfl (OL.below hT) rfl (by assumption) (by omega) hsz) | (go_simp; first | exact goes_v | exact goes_b (by assumption) | fail | (refine goes_enter ?_; first | (go_at_call 70; ((with_reducible refine (two_any z z0 z1 wo).mono ?_); rintro e w9 ⟨A9, c9, rfl, ho9, hB9⟩); exact ret_b ho9.bs hB9) | (go_at_call 70; ((with_reducible refine (two_any call ca0 ca1 wo).mono ?_); rintro e w9 ⟨A9, c9, rfl, ho9, hB9⟩); exact ret_b ho9.bs hB9))))))); refine ObsK.nil ?_; intro wz hBz; simp only [finOn, List.drop_succ_cons, List.drop_zero, List.drop_nil]
  rintro A9 c9 k9 v7 ⟨A7, n7, c7, rfl, O7⟩ A8 c8 k8
  go_simp
  have u7 : n7 = 6 := by rw [← O7.len]; rfl
  subst u7
  have V7 := below_then V6 hBz
  have F7 := F1.below (below_then T5 V7)
  have mc7 := F7.cell
  clear k8
  go_wp2_with (first
    | (at_builtin; refine wpList_append_bs (w0 := w5) _ rfl _ _ _ rfl w5.heap.size 5 Tryz.underlying24 info_u8 A7 6 c7 _ rfl O7 A9 2 c9 (two call) rfl k9 V7 (by omega) (by first | exact Nat.le_refl _ | exact Below.size V7 | omega | (simp <;> omega)) ?_; intro A10 n10 c10 w10 ho10 hB10 _ hz10; have u10 : n10 = 8 := (by rw [← ho10.len]; rfl); subst u10; rw [H0.out] at ho10; (obtain ⟨g10, rfl, ge10, gt10⟩ := ho10.ptr (by omega)); have a10 := ho10.at_ (i := 0) (by omega); have a11 := ho10.at_ (i := 1) (by omega); have gk10 : k + 1 + 1 < g10 := (by omega); have F10 := F1.below (below_then T5 hB10); have mc10 := F10.cell; have pc10 := (P1.below (below_then T5 hB10)).cell; have zc10 := (Z1.below (below_then T5 hB10)).cell))
  have Tc := below_then T5 hB10
  have Pc := P1.below Tc
  have Fc := F1.below Tc
  have Zc := Z1.below Tc
  have pcc := Pc.cell
  have fcc := Fc.cell
  have zcc := Zc.cell
  have yc := y1.below Tc
  have xc := x1.below Tc
  have gtc := ho10.at_ (i := 0) (by omega)
  have hw1' := hok
  clear hok
  refine regionX 8 [4] g10 (fun c W => match c with | 0 => Own W w5.heap.size 5 (some ⟨g10, 0, none⟩) 8 c10 (grB false false ++ two z ++ two call) | _ + 1 => True) (by kernel_rfl) (by kernel_rfl) (by kernel_rfl) ho10 (fun c W W' hj hb => by cases c with | zero => exact Own.below hj hb | succ n => trivial) ?_; (iterate 8 (first | (apply ObsX.skip (by rfl) (by rfl)) | (apply ObsX.v (by rfl) (by rfl); (intro wo hE; (repeat (first | (intro v hv; ((first | (obtain ⟨Ap, np, cp, rfl, op⟩ := hv; have obp := op.bs) | (obtain ⟨D1, g1, h1', D2, g2, h2', rfl, o13, o14⟩ := hv)))) | (intro _ _ k; try have hcv := cv k))); (have pco := (Pc.ext hE (by omega)).cell; have mco := (Fc.ext hE (by omega)).cell; have xo := x1.below (below_ext Tc hE (by omega) Tc.size); have yo := y1.below (below_ext Tc hE (by omega) Tc.size); have hsz := hE.size); refine Goes.mk ?_; first | (exact goes_appX _ _ rfl rfl hj (fun k e => by simp [Value.ownBlock] at e; exact e.symm) rfl yo (by omega) (by omega) (fun _ => trivial)) | (go_simp; first | exact goes_v | exact goes_pk (by assumption) (by assumption) | (refine goes_enter ?_; first | (go_at_call 37; ((with_reducible refine (hw1' wo Ap np cp xo obp).mono ?_); rintro e w12 ⟨⟨D1, g1, h1', D2, g2, h2', rfl, O13, O14, hB12⟩⟩); exact ret_tup (O13.mono hsz) (O14.mono hsz) hB12))))) | (apply ObsX.p (q := isTup w10.heap.size Q E) (by rfl) (by rfl) st_isTup (sx_isTup (by omega)); (intro wo hE; (repeat (first | (intro v hv; ((first | (obtain ⟨Ap, np, cp, rfl, op⟩ := hv; have obp := op.bs) | (obtain ⟨D1, g1, h1', D2, g2, h2', rfl, o13, o14⟩ := hv)))) | (intro _ _ k; try have hcv := cv k))); (have pco := (Pc.ext hE (by omega)).cell; have mco := (Fc.ext hE (by omega)).cell; have xo := x1.below (below_ext Tc hE (by omega) Tc.size); have yo := y1.below (below_ext Tc hE (by omega) Tc.size); have hsz := hE.size); refine Goes.mk ?_; first | (exact goes_appX _ _ rfl rfl hj (fun k e => by simp [Value.ownBlock] at e; exact e.symm) rfl yo (by omega) (by omega) (fun _ => trivial)) | (go_simp; first | exact goes_v | exact goes_pk (by assumption) (by assumption) | (refine goes_enter ?_; first | (go_at_call 37; ((with_reducible refine (hw1' wo Ap np cp xo obp).mono ?_); rintro e w12 ⟨⟨D1, g1, h1', D2, g2, h2', rfl, O13, O14, hB12⟩⟩); exact ret_tup (O13.mono hsz) (O14.mono hsz) hB12))))) | (apply ObsX.p (q := isPk w10.heap.size Q) (by rfl) (by rfl) st_isPk (sx_isPk (by omega)); (intro wo hE; (repeat (first | (intro v hv; ((first | (obtain ⟨Ap, np, cp, rfl, op⟩ := hv; have obp := op.bs) | (obtain ⟨D1, g1, h1', D2, g2, h2', rfl, o13, o14⟩ := hv)))) | (intro _ _ k; try have hcv := cv k))); (have pco := (Pc.ext hE (by omega)).cell; have mco := (Fc.ext hE (by omega)).cell; have xo := x1.below (below_ext Tc hE (by omega) Tc.size); have yo := y1.below (below_ext Tc hE (by omega) Tc.size); have hsz := hE.size); refine Goes.mk ?_; first | (exact goes_appX _ _ rfl rfl hj (fun k e => by simp [Value.ownBlock] at e; exact e.symm) rfl yo (by omega) (by omega) (fun _ => trivial)) | (go_simp; first | exact goes_v | exact goes_pk (by assumption) (by assumption) | (refine goes_enter ?_; first | (go_at_call 37; ((with_reducible refine (hw1' wo Ap np cp xo obp).mono ?_); rintro e w12 ⟨⟨D1, g1, h1', D2, g2, h2', rfl, O13, O14, hB12⟩⟩); exact ret_tup (O13.mono hsz) (O14.mono hsz) hB12))))) | (apply ObsX.ev (by rfl) (by rfl); (intro wo hE hj; (repeat (first | (intro v hv; ((first | (obtain ⟨Ap, np, cp, rfl, op⟩ := hv; have obp := op.bs) | (obtain ⟨D1, g1, h1', D2, g2, h2', rfl, o13, o14⟩ := hv)))) | (intro _ _ k; try have hcv := cv k))); (have pco := (Pc.ext hE (by omega)).cell; have mco := (Fc.ext hE (by omega)).cell; have xo := x1.below (below_ext Tc hE (by omega) Tc.size); have yo := y1.below (below_ext Tc hE (by omega) Tc.size); have hsz := hE.size); refine GoesX.mk ?_; first | (exact goes_appX _ _ rfl rfl hj (fun k e => by simp [Value.ownBlock] at e; exact e.symm) rfl yo (by omega) (by omega) (fun _ => trivial)) | (go_simp; first | exact goes_v | exact goes_pk (by assumption) (by assumption) | (refine goes_enter ?_; first | (go_at_call 37; ((with_reducible refine (hw1' wo Ap np cp xo obp).mono ?_); rintro e w12 ⟨⟨D1, g1, h1', D2, g2, h2', rfl, O13, O14, hB12⟩⟩); exact ret_tup (O13.mono hsz) (O14.mono hsz) hB12))))) | (apply ObsX.ep (q := isTup w10.heap.size Q E) (by rfl) (by rfl) (by rfl) st_isTup; (intro wo hE hj; (repeat (first | (intro v hv; ((first | (obtain ⟨Ap, np, cp, rfl, op⟩ := hv; have obp := op.bs) | (obtain ⟨D1, g1, h1', D2, g2, h2', rfl, o13, o14⟩ := hv)))) | (intro _ _ k; try have hcv := cv k))); (have pco := (Pc.ext hE (by omega)).cell; have mco := (Fc.ext hE (by omega)).cell; have xo := x1.below (below_ext Tc hE (by omega) Tc.size); have yo := y1.below (below_ext Tc hE (by omega) Tc.size); have hsz := hE.size); refine GoesX.mk ?_; first | (exact goes_appX _ _ rfl rfl hj (fun k e => by simp [Value.ownBlock] at e; exact e.symm) rfl yo (by omega) (by omega) (fun _ => trivial)) | (go_simp; first | exact goes_v | exact goes_pk (by assumption) (by assumption) | (refine goes_enter ?_; first | (go_at_call 37; ((with_reducible refine (hw1' wo Ap np cp xo obp).mono ?_); rintro e w12 ⟨⟨D1, g1, h1', D2, g2, h2', rfl, O13, O14, hB12⟩⟩); exact ret_tup (O13.mono hsz) (O14.mono hsz) hB12))))) | (apply ObsX.ep (q := isPk w10.heap.size Q) (by rfl) (by rfl) (by rfl) st_isPk; (intro wo hE hj; (repeat (first | (intro v hv; ((first | (obtain ⟨Ap, np, cp, rfl, op⟩ := hv; have obp := op.bs) | (obtain ⟨D1, g1, h1', D2, g2, h2', rfl, o13, o14⟩ := hv)))) | (intro _ _ k; try have hcv := cv k))); (have pco := (Pc.ext hE (by omega)).cell; have mco := (Fc.ext hE (by omega)).cell; have xo := x1.below (below_ext Tc hE (by omega) Tc.size); have yo := y1.below (below_ext Tc hE (by omega) Tc.size); have hsz := hE.size); refine GoesX.mk ?_; first | (exact goes_appX _ _ rfl rfl hj (fun k e => by simp [Value.ownBlock] at e; exact e.symm) rfl yo (by omega) (by omega) (fun _ => trivial)) | (go_simp; first | exact goes_v | exact goes_pk (by assumption) (by assumption) | (refine goes_enter ?_; first | (go_at_call 37; ((with_reducible refine (hw1' wo Ap np cp xo obp).mono ?_); rintro e w12 ⟨⟨D1, g1, h1', D2, g2, h2', rfl, O13, O14, hB12⟩⟩); exact ret_tup (O13.mono hsz) (O14.mono hsz) hB12))))) | (apply ObsX.ep (q := isW w5.heap.size _) (by rfl) (by rfl) (by rfl) st_isW; (intro wo hE hj; (repeat (first | (intro v hv; ((first | (obtain ⟨Ap, np, cp, rfl, op⟩ := hv; have obp := op.bs) | (obtain ⟨D1, g1, h1', D2, g2, h2', rfl, o13, o14⟩ := hv)))) | (intro _ _ k; try have hcv := cv k))); (have pco := (Pc.ext hE (by omega)).cell; have mco := (Fc.ext hE (by omega)).cell; have xo := x1.below (below_ext Tc hE (by omega) Tc.size); have yo := y1.below (below_ext Tc hE (by omega) Tc.size); have hsz := hE.size); refine GoesX.mk ?_; first | (exact goes_appX _ _ rfl rfl hj (fun k e => by simp [Value.ownBlock] at e; exact e.symm) rfl yo (by omega) (by omega) (fun _ => trivial)) | (go_simp; first | exact goes_v | exact goes_pk (by assumption) (by assumption) | (refine goes_enter ?_; first | (go_at_call 37; ((with_reducible refine (hw1' wo Ap np cp xo obp).mono ?_); rintro e w12 ⟨⟨D1, g1, h1', D2, g2, h2', rfl, O13, O14, hB12⟩⟩); exact ret_tup (O13.mono hsz) (O14.mono hsz) hB12))))))); refine ObsX.nil ?_; intro wz hEz hJz; simp only [finOn, List.drop_succ_cons, List.drop_zero, List.drop_nil]
  rintro v12 ⟨D1, g1, h1', D2, g2, h2', rfl, O13, O14⟩ v13 hv13 v14 hv14
  clear hv13 hv14
  go_simp
  have Zz := Zc.ext hEz (by omega)
  have zcz := Zz.cell
  have Tz := below_ext Tc hEz (by omega) Tc.size
  have r1s := R1.size
  go_wp2_with fail
  obtain ⟨wf, hwf, Sf⟩ := store9 Zz (.int .u8 Q.tos) (.int .u16 Q.id) (.bool Q.keep) (.int .u8 Q.ttl) (.int .u8 Q.proto) (.int .u32 Q.src) (.int .u32 Q.dst) (.slice D1 g1 h1') (.slice D2 g2 h2')
  rw [hwf]
  have pf := Sf.blk.cell
  have Of := Sf.own O13 (fun a e => by have := O13.ge a e; omega)
  have Df := Sf.own O14 (fun a e => by have := O14.ge a e; omega)
  have tcs := Tc.size
  refine bodyPost_ret (v := .tuple #[(.agg #[.int .u8 (Q).tos, .int .u16 (Q).id, .bool (Q).keep, .int .u8 (Q).ttl, .int .u8 (Q).proto, .int .u32 (Q).src, .int .u32 (Q).dst, .slice D1 g1 h1', .slice D2 g2 h2']), .int .i64 E]) (by simp [results, Tryz.results43, go_sem, pf]) rfl ⟨⟨D1, g1, h1', D2, g2, h2', rfl, Of.mono (by omega), Df.mono (by omega), Sf.bel (below_then R1 Tz) (by omega)⟩⟩
theorem rbg_ok01 (p : Pkt) (A1 : Option Addr) (n1 c1 : Nat) (A2 : Option Addr) (n2 c2 : Nat) (call : Int) (seq ack : Int) (hsq : (seq != 0) = false) (dat : List UInt8) (B1 : Option Addr) (m1 d1 : Nat) (w : World) (k1 : Bs w A1 n1 c1 p.opt) (j1 : Bs w B1 m1 d1 dat)
    (hca : 0 ≤ call ∧ call ≤ 65535) (hse : 0 ≤ seq ∧ seq ≤ 4294967295) (hak : 0 ≤ ack ∧ ack ≤ 4294967295) (h1 : (n1 : Int) ≤ 40) (h2 : n1 % 4 = 0) (Q : Pkt) (E : Int) (h3 : 20 + (n1 : Int) + 12 + m1 ≤ 65535) (hok : ∀ W A n c, Bs W A1 n1 c1 p.opt → Bs W A n c (((grB false true ++ two ((m1 : Int) % 65536) ++ two call) ++ four ack) ++ dat) → Calls Tryz.prog 37 #[(.agg #[.int .u8 (p).tos, .int .u16 (p).id, .bool (p).keep, .int .u8 (p).ttl, .int .u8 (p).proto, .int .u32 (p).src, .int .u32 (p).dst, .slice A1 n1 c1, .slice A2 n2 c2]), .int .u8 47, .slice A n c] W (WiPost W Q E)) :
    Calls Tryz.prog 43 #[(.agg #[.int .u8 (p).tos, .int .u16 (p).id, .bool (p).keep, .int .u8 (p).ttl, .int .u8 (p).proto, .int .u32 (p).src, .int .u32 (p).dst, .slice A1 n1 c1, .slice A2 n2 c2]), .agg #[.int .u16 call, .bool false, .bool true, .int .u32 seq, .int .u32 ack, .slice B1 m1 d1]] w (WiPost w Q E) := by
  have hw0 : ∀ W, Bs W A1 n1 c1 p.opt → Calls Tryz.prog 37 #[(.agg #[.int .u8 (p).tos, .int .u16 (p).id, .bool (p).keep, .int .u8 (p).ttl, .int .u8 (p).proto, .int .u32 (p).src, .int .u32 (p).dst, .slice A1 n1 c1, .slice A2 n2 c2]), .int .u8 47, .slice none 0 0] W (fun e w' => ∃ C1 e1 f1 C2 e2 f2, e = .returned (.tuple #[.agg #[.int .u8 p.tos, .int .u16 p.id, .bool p.keep, .int .u8 p.ttl, .int .u8 47, .int .u32 p.src, .int .u32 p.dst, .slice C1 e1 f1, .slice C2 e2 f2], .int .i64 0]) ∧ Own w' W.heap.size 5 C1 e1 f1 p.opt ∧ Own w' W.heap.size 5 C2 e2 f2 [] ∧ Below W.heap.size W w') := fun W kk => by
    have hh := rwith_any p A1 n1 c1 A2 n2 c2 47 none 0 0 [] W kk (Bs.none_ W)
    unfold withP at hh
    rw [show ([] : List UInt8).length = 0 from rfl, wiE_0 k1.len h1 h2 (by omega), if_pos rfl] at hh
    exact hh.mono fun e w' hq => hq.out
  have b1 := j1.max
  obtain ⟨ca0, ca1⟩ := hca
  obtain ⟨se0, se1⟩ := hse
  obtain ⟨ak0, ak1⟩ := hak
  obtain ⟨z, hz⟩ : ∃ z : Int, (m1 : Int) % 65536 = z := ⟨_, rfl⟩
  have z0 : 0 ≤ z := by omega
  have z1 : z ≤ 65535 := by omega
  have hzw : IntKind.u16.wrap (m1 : Int) = z := by rw [← hz]; simp [IntKind.wrap, IntKind.signed, IntKind.bits]
  rw [hz] at hok
  have L4 := fun W => lit4 (e := 5) (x := 32) (y := 1) (z := 136) (u := 11) (by omega) (by omega) (by omega) (by omega) (by omega) (by omega) (by omega) (by omega) W
  have H0 : Hid ([ub 32, ub 1, ub 136, ub 11] ++ two z ++ two call = grB false false ++ two z ++ two call) := rfl
  obtain ⟨k, hk⟩ : ∃ k : Nat, w.heap.size = k := ⟨_, rfl⟩
  obtain ⟨w1, hw1⟩ : ∃ w1, ((w.alloc (.cells #[.int .u8 (p).tos, .int .u16 (p).id, .bool (p).keep, .int .u8 (p).ttl, .int .u8 (p).proto, .int .u32 (p).src, .int .u32 (p).dst, .slice A1 n1 c1, .slice A2 n2 c2] 26)).alloc (.cells #[.int .u16 call, .bool false, .bool true, .int .u32 seq, .int .u32 ack, .slice B1 m1 d1] 68)).alloc (.cells #[.int .u8 0, .int .u16 0, .bool false, .int .u8 0, .int .u8 0, .int .u32 0, .int .u32 0, .slice none 0 0, .slice none 0 0] 26) = w1 := ⟨_, rfl⟩
  have P1 : Blk w1 k #[.int .u8 (p).tos, .int .u16 (p).id, .bool (p).keep, .int .u8 (p).ttl, .int .u8 (p).proto, .int .u32 (p).src, .int .u32 (p).dst, .slice A1 n1 c1, .slice A2 n2 c2] 26 := by rw [← hw1]; exact ((blk_new w _ _ k hk).alloc _).alloc _
  have F1 : Blk w1 (k + 1) #[.int .u16 call, .bool false, .bool true, .int .u32 seq, .int .u32 ack, .slice B1 m1 d1] 68 := by rw [← hw1]; exact (blk_new _ _ _ (k + 1) (by simp [hk])).alloc _
  have Z1 : Blk w1 (k + 1 + 1) #[.int .u8 0, .int .u16 0, .bool false, .int .u8 0, .int .u8 0, .int .u32 0, .int .u32 0, .slice none 0 0, .slice none 0 0] 26 := by rw [← hw1]; exact blk_new _ _ _ (k + 1 + 1) (by simp [hk])
  have R1 : Below w.heap.size w w1 := by first | exact bw1 hw1 | exact bw2 hw1 | exact bw3 hw1 | exact bw4 hw1
  have x1 := k1.below R1
  have y1 := j1.below R1
  have pc := P1.cell
  have mc := F1.cell
  have zc := Z1.cell
  have zl1 := Z1.lt
  go_enter Tryz.func43, Tryz.ntmps43
  go_wp2_with (go_at_call 37; ((with_reducible refine (hw0 w1 x1).mono ?_); rintro e w4 ⟨C1, e1, f1, C2, e2, f2, rfl, O1, O2, hB4⟩); (obtain ⟨w5, hw5⟩ : ∃ w5, w4.alloc (.cells #[.int .u8 p.tos, .int .u16 p.id, .bool p.keep, .int .u8 p.ttl, .int .u8 47, .int .u32 p.src, .int .u32 p.dst, .slice C1 e1 f1, .slice C2 e2 f2] 26) = w5 := ⟨_, rfl⟩); have V5 : Below w4.heap.size w4 w5 := (by first | exact bw1 hw5 | exact bw2 hw5 | exact bw3 hw5 | exact bw4 hw5); have T5 := below_then hB4 V5; have P5 := P1.below T5; have F5 := F1.below T5; have Z5 := Z1.below T5; have zc5 := Z5.cell)
  obtain ⟨w6, hw6⟩ : ∃ w6, w5.alloc (.cells #[.int .u8 32, .int .u8 1, .int .u8 136, .int .u8 11] 5) = w6 := ⟨_, rfl⟩
  have OL := L4 w5
  have V6 : Below w5.heap.size w5 w6 := by first | exact bw1 hw6 | exact bw2 hw6 | exact bw3 hw6 | exact bw4 hw6
  rw [hw6] at OL ⊢
  have T6 := below_then T5 V6
  have F6 := F1.below T6
  have v6s := V6.size
  have v5s := T5.size
  have zl5 := Z5.lt
  clear hw6 hw5 zc5 pc mc zc hw1
  refine region_txt 10 (by kernel_rfl) (by kernel_rfl) ?_; (iterate 10 (first | (apply ObsK.skip (by rfl)) | (apply ObsK.v (by rfl); (intro wo hT; (repeat (first | (intro v hv; (fail)) | (intro _ _ k; try have hcv := cv k))); (have mc := (F6.below hT).cell; have hsz : w5.heap.size ≤ wo.heap.size := Nat.le_trans v6s hT.size); refine Goes.mk ?_; first | (exact goes_app _ _ rfl rfl (OL.below hT) rfl (by assumption) (by omega) hsz) | (go_simp; first | exact goes_v | exact goes_b (by assumption) | fail | (refine goes_enter ?_; first | (go_at_call 70; ((with_reducible refine (two_any z z0 z1 wo).mono ?_); rintro e w9 ⟨A9, c9, rfl, ho9, hB9⟩); exact ret_b ho9.bs hB9) | (go_at_call 70; ((with_reducible refine (two_any call ca0 ca1 wo).mono ?_); rintro e w9 ⟨A9, c9, rfl, ho9, hB9⟩); exact ret_b ho9.bs hB9))))) | (apply ObsK.b (by rfl); (intro wo hT; (repeat (first | (intro v hv; (fail)) | (intro _ _ k; try have hcv := cv k))); (have mc := (F6.below hT).cell; have hsz : w5.heap.size ≤ wo.heap.size := Nat.le_trans v6s hT.size); refine Goes.mk ?_; first | (exact goes_app _ _ rfl rfl (OL.below hT) rfl (by assumption) (by omega) hsz) | (go_simp; first | exact goes_v | exact goes_b (by assumption) | fail | (refine goes_enter ?_; first | (go_at_call 70; ((with_reducible refine (two_any z z0 z1 wo).mono ?_); rintro e w9 ⟨A9, c9, rfl, ho9, hB9⟩); exact ret_b ho9.bs hB9) | (go_at_call 70; ((with_reducible refine (two_any call ca0 ca1 wo).mono ?_); rintro e w9 ⟨A9, c9, rfl, ho9, hB9⟩); exact ret_b ho9.bs hB9))))) | (apply ObsK.p (q := isW w5.heap.size _) (by rfl) st_isW; (intro wo hT; (repeat (first | (intro v hv; (fail)) | (intro _ _ k; try have hcv := cv k))); (have mc := (F6.below hT).cell; have hsz : w5.heap.size ≤ wo.heap.size := Nat.le_trans v6s hT.size); refine Goes.mk ?_; first | (exact goes_app _ _ rfl rfl (OL.below hT) rfl (by assumption) (by omega) hsz) | (go_simp; first | exact goes_v | exact goes_b (by assumption) | fail | (refine goes_enter ?_; first | (go_at_call 70; ((with_reducible refine (two_any z z0 z1 wo).mono ?_); rintro e w9 ⟨A9, c9, rfl, ho9, hB9⟩); exact ret_b ho9.bs hB9) | (go_at_call 70; ((with_reducible refine (two_any call ca0 ca1 wo).mono ?_); rintro e w9 ⟨A9, c9, rfl, ho9, hB9⟩); exact ret_b ho9.bs hB9))))))); refine ObsK.nil ?_; intro wz hBz; simp only [finOn, List.drop_succ_cons, List.drop_zero, List.drop_nil]
  rintro A9 c9 k9 v7 ⟨A7, n7, c7, rfl, O7⟩ A8 c8 k8
  go_simp
  have u7 : n7 = 6 := by rw [← O7.len]; rfl
  subst u7
  have V7 := below_then V6 hBz
  have F7 := F1.below (below_then T5 V7)
  have mc7 := F7.cell
  clear k8
  go_wp2_with (first
    | (at_builtin; refine wpList_append_bs (w0 := w5) _ rfl _ _ _ rfl w5.heap.size 5 Tryz.underlying24 info_u8 A7 6 c7 _ rfl O7 A9 2 c9 (two call) rfl k9 V7 (by omega) (by first | exact Nat.le_refl _ | exact Below.size V7 | omega | (simp <;> omega)) ?_; intro A10 n10 c10 w10 ho10 hB10 _ hz10; have u10 : n10 = 8 := (by rw [← ho10.len]; rfl); subst u10; rw [H0.out] at ho10; (obtain ⟨g10, rfl, ge10, gt10⟩ := ho10.ptr (by omega)); have a10 := ho10.at_ (i := 0) (by omega); have a11 := ho10.at_ (i := 1) (by omega); have gk10 : k + 1 + 1 < g10 := (by omega); have F10 := F1.below (below_then T5 hB10); have mc10 := F10.cell; have pc10 := (P1.below (below_then T5 hB10)).cell; have zc10 := (Z1.below (below_then T5 hB10)).cell))
  have S12 : Own (w10.setCell ⟨g10, 1, none⟩ (.int .u8 129)) w5.heap.size 5 (some ⟨g10, 0, none⟩) 8 c10 (grB false true ++ two z ++ two call) := by
    have := ho10.set_ (i := 1) (by omega) 129 (y := 129) (by omega)
    exact this
  have B12 := hB10.setCell (p := ⟨g10, 1, none⟩) (by omega) (.int .u8 129)
  have M12 := (F1.below (below_then T5 B12)).cell
  have MP12 := (P1.below (below_then T5 B12)).cell
  obtain ⟨w12, hw12⟩ : ∃ w12, w10.setCell ⟨g10, 1, none⟩ (.int .u8 129) = w12 := ⟨_, rfl⟩
  rw [hw12] at S12 B12 M12 MP12 ⊢
  have bs12 := B12.size
  refine (four_any ack ak0 ak1 _).mono ?_
  rintro e w13 ⟨A13, c13, rfl, ho13, hB13⟩
  have S13 := S12.below hB13
  have B13 := below_then B12 hB13
  go_wp2_with (first
    | (at_builtin; refine wpList_append_bs (w0 := w5) _ rfl _ _ _ rfl w5.heap.size 5 Tryz.underlying24 info_u8 (some ⟨g10, 0, none⟩) 8 c10 _ rfl S13 A13 4 c13 (four ack) rfl ho13.bs B13 (by omega) (by first | exact Nat.le_refl _ | exact Below.size B13 | omega | (simp <;> omega)) ?_; intro A14 n14 c14 w14 ho14 hB14 _ hz14; have u14 : n14 = 12 := (by rw [← ho14.len]; rfl); subst u14; (obtain ⟨g14, rfl, ge14, gt14⟩ := ho14.ptr (by omega)); have a141 := ho14.at_ (i := 1) (by omega); have gk14 : k + 1 + 1 < g14 := (by omega); have F14 := F1.below (below_then T5 hB14); have mc14 := F14.cell; have pc14 := (P1.below (below_then T5 hB14)).cell; have zc14 := (Z1.below (below_then T5 hB14)).cell))
  have Tc := below_then T5 hB14
  have Pc := P1.below Tc
  have Fc := F1.below Tc
  have Zc := Z1.below Tc
  have pcc := Pc.cell
  have fcc := Fc.cell
  have zcc := Zc.cell
  have yc := y1.below Tc
  have xc := x1.below Tc
  have gtc := ho14.at_ (i := 0) (by omega)
  have hw1' := hok
  clear hok
  refine regionX 8 [4] g14 (fun c W => match c with | 0 => Own W w5.heap.size 5 (some ⟨g14, 0, none⟩) 12 c14 ((grB false true ++ two z ++ two call) ++ four ack) | _ + 1 => True) (by kernel_rfl) (by kernel_rfl) (by kernel_rfl) ho14 (fun c W W' hj hb => by cases c with | zero => exact Own.below hj hb | succ n => trivial) ?_; (iterate 8 (first | (apply ObsX.skip (by rfl) (by rfl)) | (apply ObsX.v (by rfl) (by rfl); (intro wo hE; (repeat (first | (intro v hv; ((first | (obtain ⟨Ap, np, cp, rfl, op⟩ := hv; have obp := op.bs) | (obtain ⟨D1, g1, h1', D2, g2, h2', rfl, o13, o14⟩ := hv)))) | (intro _ _ k; try have hcv := cv k))); (have pco := (Pc.ext hE (by omega)).cell; have mco := (Fc.ext hE (by omega)).cell; have xo := x1.below (below_ext Tc hE (by omega) Tc.size); have yo := y1.below (below_ext Tc hE (by omega) Tc.size); have hsz := hE.size); refine Goes.mk ?_; first | (exact goes_appX _ _ rfl rfl hj (fun k e => by simp [Value.ownBlock] at e; exact e.symm) rfl yo (by omega) (by omega) (fun _ => trivial)) | (go_simp; first | exact goes_v | exact goes_pk (by assumption) (by assumption) | (refine goes_enter ?_; first | (go_at_call 37; ((with_reducible refine (hw1' wo Ap np cp xo obp).mono ?_); rintro e w12 ⟨⟨D1, g1, h1', D2, g2, h2', rfl, O13, O14, hB12⟩⟩); exact ret_tup (O13.mono hsz) (O14.mono hsz) hB12))))) | (apply ObsX.p (q := isTup w14.heap.size Q E) (by rfl) (by rfl) st_isTup (sx_isTup (by omega)); (intro wo hE; (repeat (first | (intro v hv; ((first | (obtain ⟨Ap, np, cp, rfl, op⟩ := hv; have obp := op.bs) | (obtain ⟨D1, g1, h1', D2, g2, h2', rfl, o13, o14⟩ := hv)))) | (intro _ _ k; try have hcv := cv k))); (have pco := (Pc.ext hE (by omega)).cell; have mco := (Fc.ext hE (by omega)).cell; have xo := x1.below (below_ext Tc hE (by omega) Tc.size); have yo := y1.below (below_ext Tc hE (by omega) Tc.size); have hsz := hE.size); refine Goes.mk ?_; first | (exact goes_appX _ _ rfl rfl hj (fun k e => by simp [Value.ownBlock] at e; exact e.symm) rfl yo (by omega) (by omega) (fun _ => trivial)) | (go_simp; first | exact goes_v | exact goes_pk (by assumption) (by assumption) | (refine goes_enter ?_; first | (go_at_call 37; ((with_reducible refine (hw1' wo Ap np cp xo obp).mono ?_); rintro e w12 ⟨⟨D1, g1, h1', D2, g2, h2', rfl, O13, O14, hB12⟩⟩); exact ret_tup (O13.mono hsz) (O14.mono hsz) hB12))))) | (apply ObsX.p (q := isPk w14.heap.size Q) (by rfl) (by rfl) st_isPk (sx_isPk (by omega)); (intro wo hE; (repeat (first | (intro v hv; ((first | (obtain ⟨Ap, np, cp, rfl, op⟩ := hv; have obp := op.bs) | (obtain ⟨D1, g1, h1', D2, g2, h2', rfl, o13, o14⟩ := hv)))) | (intro _ _ k; try have hcv := cv k))); (have pco := (Pc.ext hE (by omega)).cell; have mco := (Fc.ext hE (by omega)).cell; have xo := x1.below (below_ext Tc hE (by omega) Tc.size); have yo := y1.below (below_ext Tc hE (by omega) Tc.size); have hsz := hE.size); refine Goes.mk ?_; first | (exact goes_appX _ _ rfl rfl hj (fun k e => by simp [Value.ownBlock] at e; exact e.symm) rfl yo (by omega) (by omega) (fun _ => trivial)) | (go_simp; first | exact goes_v | exact goes_pk (by assumption) (by assumption) | (refine goes_enter ?_; first | (go_at_call 37; ((with_reducible refine (hw1' wo Ap np cp xo obp).mono ?_); rintro e w12 ⟨⟨D1, g1, h1', D2, g2, h2', rfl, O13, O14, hB12⟩⟩); exact ret_tup (O13.mono hsz) (O14.mono hsz) hB12))))) | (apply ObsX.ev (by rfl) (by rfl); (intro wo hE hj; (repeat (first | (intro v hv; ((first | (obtain ⟨Ap, np, cp, rfl, op⟩ := hv; have obp := op.bs) | (obtain ⟨D1, g1, h1', D2, g2, h2', rfl, o13, o14⟩ := hv)))) | (intro _ _ k; try have hcv := cv k))); (have pco := (Pc.ext hE (by omega)).cell; have mco := (Fc.ext hE (by omega)).cell; have xo := x1.below (below_ext Tc hE (by omega) Tc.size); have yo := y1.below (below_ext Tc hE (by omega) Tc.size); have hsz := hE.size); refine GoesX.mk ?_; first | (exact goes_appX _ _ rfl rfl hj (fun k e => by simp [Value.ownBlock] at e; exact e.symm) rfl yo (by omega) (by omega) (fun _ => trivial)) | (go_simp; first | exact goes_v | exact goes_pk (by assumption) (by assumption) | (refine goes_enter ?_; first | (go_at_call 37; ((with_reducible refine (hw1' wo Ap np cp xo obp).mono ?_); rintro e w12 ⟨⟨D1, g1, h1', D2, g2, h2', rfl, O13, O14, hB12⟩⟩); exact ret_tup (O13.mono hsz) (O14.mono hsz) hB12))))) | (apply ObsX.ep (q := isTup w14.heap.size Q E) (by rfl) (by rfl) (by rfl) st_isTup; (intro wo hE hj; (repeat (first | (intro v hv; ((first | (obtain ⟨Ap, np, cp, rfl, op⟩ := hv; have obp := op.bs) | (obtain ⟨D1, g1, h1', D2, g2, h2', rfl, o13, o14⟩ := hv)))) | (intro _ _ k; try have hcv := cv k))); (have pco := (Pc.ext hE (by omega)).cell; have mco := (Fc.ext hE (by omega)).cell; have xo := x1.below (below_ext Tc hE (by omega) Tc.size); have yo := y1.below (below_ext Tc hE (by omega) Tc.size); have hsz := hE.size); refine GoesX.mk ?_; first | (exact goes_appX _ _ rfl rfl hj (fun k e => by simp [Value.ownBlock] at e; exact e.symm) rfl yo (by omega) (by omega) (fun _ => trivial)) | (go_simp; first | exact goes_v | exact goes_pk (by assumption) (by assumption) | (refine goes_enter ?_; first | (go_at_call 37; ((with_reducible refine (hw1' wo Ap np cp xo obp).mono ?_); rintro e w12 ⟨⟨D1, g1, h1', D2, g2, h2', rfl, O13, O14, hB12⟩⟩); exact ret_tup (O13.mono hsz) (O14.mono hsz) hB12))))) | (apply ObsX.ep (q := isPk w14.heap.size Q) (by rfl) (by rfl) (by rfl) st_isPk; (intro wo hE hj; (repeat (first | (intro v hv; ((first | (obtain ⟨Ap, np, cp, rfl, op⟩ := hv; have obp := op.bs) | (obtain ⟨D1, g1, h1', D2, g2, h2', rfl, o13, o14⟩ := hv)))) | (intro _ _ k; try have hcv := cv k))); (have pco := (Pc.ext hE (by omega)).cell; have mco := (Fc.ext hE (by omega)).cell; have xo := x1.below (below_ext Tc hE (by omega) Tc.size); have yo := y1.below (below_ext Tc hE (by omega) Tc.size); have hsz := hE.size); refine GoesX.mk ?_; first | (exact goes_appX _ _ rfl rfl hj (fun k e => by simp [Value.ownBlock] at e; exact e.symm) rfl yo (by omega) (by omega) (fun _ => trivial)) | (go_simp; first | exact goes_v | exact goes_pk (by assumption) (by assumption) | (refine goes_enter ?_; first | (go_at_call 37; ((with_reducible refine (hw1' wo Ap np cp xo obp).mono ?_); rintro e w12 ⟨⟨D1, g1, h1', D2, g2, h2', rfl, O13, O14, hB12⟩⟩); exact ret_tup (O13.mono hsz) (O14.mono hsz) hB12))))) | (apply ObsX.ep (q := isW w5.heap.size _) (by rfl) (by rfl) (by rfl) st_isW; (intro wo hE hj; (repeat (first | (intro v hv; ((first | (obtain ⟨Ap, np, cp, rfl, op⟩ := hv; have obp := op.bs) | (obtain ⟨D1, g1, h1', D2, g2, h2', rfl, o13, o14⟩ := hv)))) | (intro _ _ k; try have hcv := cv k))); (have pco := (Pc.ext hE (by omega)).cell; have mco := (Fc.ext hE (by omega)).cell; have xo := x1.below (below_ext Tc hE (by omega) Tc.size); have yo := y1.below (below_ext Tc hE (by omega) Tc.size); have hsz := hE.size); refine GoesX.mk ?_; first | (exact goes_appX _ _ rfl rfl hj (fun k e => by simp [Value.ownBlock] at e; exact e.symm) rfl yo (by omega) (by omega) (fun _ => trivial)) | (go_simp; first | exact goes_v | exact goes_pk (by assumption) (by assumption) | (refine goes_enter ?_; first | (go_at_call 37; ((with_reducible refine (hw1' wo Ap np cp xo obp).mono ?_); rintro e w12 ⟨⟨D1, g1, h1', D2, g2, h2', rfl, O13, O14, hB12⟩⟩); exact ret_tup (O13.mono hsz) (O14.mono hsz) hB12))))))); refine ObsX.nil ?_; intro wz hEz hJz; simp only [finOn, List.drop_succ_cons, List.drop_zero, List.drop_nil]
  rintro v12 ⟨D1, g1, h1', D2, g2, h2', rfl, O13, O14⟩ v13 hv13 v14 hv14
  clear hv13 hv14
  go_simp
  have Zz := Zc.ext hEz (by omega)
  have zcz := Zz.cell
  have Tz := below_ext Tc hEz (by omega) Tc.size
  have r1s := R1.size
  go_wp2_with fail
  obtain ⟨wf, hwf, Sf⟩ := store9 Zz (.int .u8 Q.tos) (.int .u16 Q.id) (.bool Q.keep) (.int .u8 Q.ttl) (.int .u8 Q.proto) (.int .u32 Q.src) (.int .u32 Q.dst) (.slice D1 g1 h1') (.slice D2 g2 h2')
  rw [hwf]
  have pf := Sf.blk.cell
  have Of := Sf.own O13 (fun a e => by have := O13.ge a e; omega)
  have Df := Sf.own O14 (fun a e => by have := O14.ge a e; omega)
  have tcs := Tc.size
  refine bodyPost_ret (v := .tuple #[(.agg #[.int .u8 (Q).tos, .int .u16 (Q).id, .bool (Q).keep, .int .u8 (Q).ttl, .int .u8 (Q).proto, .int .u32 (Q).src, .int .u32 (Q).dst, .slice D1 g1 h1', .slice D2 g2 h2']), .int .i64 E]) (by simp [results, Tryz.results43, go_sem, pf]) rfl ⟨⟨D1, g1, h1', D2, g2, h2', rfl, Of.mono (by omega), Df.mono (by omega), Sf.bel (below_then R1 Tz) (by omega)⟩⟩
theorem rbg_ok10 (p : Pkt) (A1 : Option Addr) (n1 c1 : Nat) (A2 : Option Addr) (n2 c2 : Nat) (call : Int) (seq ack : Int) (hac : (ack != 0) = false) (dat : List UInt8) (B1 : Option Addr) (m1 d1 : Nat) (w : World) (k1 : Bs w A1 n1 c1 p.opt) (j1 : Bs w B1 m1 d1 dat)
    (hca : 0 ≤ call ∧ call ≤ 65535) (hse : 0 ≤ seq ∧ seq ≤ 4294967295) (hak : 0 ≤ ack ∧ ack ≤ 4294967295) (h1 : (n1 : Int) ≤ 40) (h2 : n1 % 4 = 0) (Q : Pkt) (E : Int) (h3 : 20 + (n1 : Int) + 12 + m1 ≤ 65535) (hok : ∀ W A n c, Bs W A1 n1 c1 p.opt → Bs W A n c (((grB true false ++ two ((m1 : Int) % 65536) ++ two call) ++ four seq) ++ dat) → Calls Tryz.prog 37 #[(.agg #[.int .u8 (p).tos, .int .u16 (p).id, .bool (p).keep, .int .u8 (p).ttl, .int .u8 (p).proto, .int .u32 (p).src, .int .u32 (p).dst, .slice A1 n1 c1, .slice A2 n2 c2]), .int .u8 47, .slice A n c] W (WiPost W Q E)) :
    Calls Tryz.prog 43 #[(.agg #[.int .u8 (p).tos, .int .u16 (p).id, .bool (p).keep, .int .u8 (p).ttl, .int .u8 (p).proto, .int .u32 (p).src, .int .u32 (p).dst, .slice A1 n1 c1, .slice A2 n2 c2]), .agg #[.int .u16 call, .bool true, .bool false, .int .u32 seq, .int .u32 ack, .slice B1 m1 d1]] w (WiPost w Q E) := by
  have hw0 : ∀ W, Bs W A1 n1 c1 p.opt → Calls Tryz.prog 37 #[(.agg #[.int .u8 (p).tos, .int .u16 (p).id, .bool (p).keep, .int .u8 (p).ttl, .int .u8 (p).proto, .int .u32 (p).src, .int .u32 (p).dst, .slice A1 n1 c1, .slice A2 n2 c2]), .int .u8 47, .slice none 0 0] W (fun e w' => ∃ C1 e1 f1 C2 e2 f2, e = .returned (.tuple #[.agg #[.int .u8 p.tos, .int .u16 p.id, .bool p.keep, .int .u8 p.ttl, .int .u8 47, .int .u32 p.src, .int .u32 p.dst, .slice C1 e1 f1, .slice C2 e2 f2], .int .i64 0]) ∧ Own w' W.heap.size 5 C1 e1 f1 p.opt ∧ Own w' W.heap.size 5 C2 e2 f2 [] ∧ Below W.heap.size W w') := fun W kk => by
    have hh := rwith_any p A1 n1 c1 A2 n2 c2 47 none 0 0 [] W kk (Bs.none_ W)
    unfold withP at hh
    rw [show ([] : List UInt8).length = 0 from rfl, wiE_0 k1.len h1 h2 (by omega), if_pos rfl] at hh
    exact hh.mono fun e w' hq => hq.out
  have b1 := j1.max
  obtain ⟨ca0, ca1⟩ := hca
  obtain ⟨se0, se1⟩ := hse
  obtain ⟨ak0, ak1⟩ := hak
  obtain ⟨z, hz⟩ : ∃ z : Int, (m1 : Int) % 65536 = z := ⟨_, rfl⟩
  have z0 : 0 ≤ z := by omega
  have z1 : z ≤ 65535 := by omega
  have hzw : IntKind.u16.wrap (m1 : Int) = z := by rw [← hz]; simp [IntKind.wrap, IntKind.signed, IntKind.bits]
  rw [hz] at hok
  have L4 := fun W => lit4 (e := 5) (x := 32) (y := 1) (z := 136) (u := 11) (by omega) (by omega) (by omega) (by omega) (by omega) (by omega) (by omega) (by omega) W
  have H0 : Hid ([ub 32, ub 1, ub 136, ub 11] ++ two z ++ two call = grB false false ++ two z ++ two call) := rfl
  obtain ⟨k, hk⟩ : ∃ k : Nat, w.heap.size = k := ⟨_, rfl⟩
  obtain ⟨w1, hw1⟩ : ∃ w1, ((w.alloc (.cells #[.int .u8 (p).tos, .int .u16 (p).id, .bool (p).keep, .int .u8 (p).ttl, .int .u8 (p).proto, .int .u32 (p).src, .int .u32 (p).dst, .slice A1 n1 c1, .slice A2 n2 c2] 26)).alloc (.cells #[.int .u16 call, .bool true, .bool false, .int .u32 seq, .int .u32 ack, .slice B1 m1 d1] 68)).alloc (.cells #[.int .u8 0, .int .u16 0, .bool false, .int .u8 0, .int .u8 0, .int .u32 0, .int .u32 0, .slice none 0 0, .slice none 0 0] 26) = w1 := ⟨_, rfl⟩
  have P1 : Blk w1 k #[.int .u8 (p).tos, .int .u16 (p).id, .bool (p).keep, .int .u8 (p).ttl, .int .u8 (p).proto, .int .u32 (p).src, .int .u32 (p).dst, .slice A1 n1 c1, .slice A2 n2 c2] 26 := by rw [← hw1]; exact ((blk_new w _ _ k hk).alloc _).alloc _
  have F1 : Blk w1 (k + 1) #[.int .u16 call, .bool true, .bool false, .int .u32 seq, .int .u32 ack, .slice B1 m1 d1] 68 := by rw [← hw1]; exact (blk_new _ _ _ (k + 1) (by simp [hk])).alloc _
  have Z1 : Blk w1 (k + 1 + 1) #[.int .u8 0, .int .u16 0, .bool false, .int .u8 0, .int .u8 0, .int .u32 0, .int .u32 0, .slice none 0 0, .slice none 0 0] 26 := by rw [← hw1]; exact blk_new _ _ _ (k + 1 + 1) (by simp [hk])
  have R1 : Below w.heap.size w w1 := by first | exact bw1 hw1 | exact bw2 hw1 | exact bw3 hw1 | exact bw4 hw1
  have x1 := k1.below R1
  have y1 := j1.below R1
  have pc := P1.cell
  have mc := F1.cell
  have zc := Z1.cell
  have zl1 := Z1.lt
  go_enter Tryz.func43, Tryz.ntmps43
  go_wp2_with (go_at_call 37; ((with_reducible refine (hw0 w1 x1).mono ?_); rintro e w4 ⟨C1, e1, f1, C2, e2, f2, rfl, O1, O2, hB4⟩); (obtain ⟨w5, hw5⟩ : ∃ w5, w4.alloc (.cells #[.int .u8 p.tos, .int .u16 p.id, .bool p.keep, .int .u8 p.ttl, .int .u8 47, .int .u32 p.src, .int .u32 p.dst, .slice C1 e1 f1, .slice C2 e2 f2] 26) = w5 := ⟨_, rfl⟩); have V5 : Below w4.heap.size w4 w5 := (by first | exact bw1 hw5 | exact bw2 hw5 | exact bw3 hw5 | exact bw4 hw5); have T5 := below_then hB4 V5; have P5 := P1.below T5; have F5 := F1.below T5; have Z5 := Z1.below T5; have zc5 := Z5.cell)
  obtain ⟨w6, hw6⟩ : ∃ w6, w5.alloc (.cells #[.int .u8 32, .int .u8 1, .int .u8 136, .int .u8 11] 5) = w6 := ⟨_, rfl⟩
  have OL := L4 w5
  have V6 : Below w5.heap.size w5 w6 := by first | exact bw1 hw6 | exact bw2 hw6 | exact bw3 hw6 | exact bw4 hw6
  rw [hw6] at OL ⊢
  have T6 := below_then T5 V6
  have F6 := F1.below T6
  have v6s := V6.size
  have v5s := T5.size
  have zl5 := Z5.lt
  clear hw6 hw5 zc5 pc mc zc hw1
  refine region_txt 10 (by kernel_rfl) (by kernel_rfl) ?_; (iterate 10 (first | (apply ObsK.skip (by rfl)) | (apply ObsK.v (by rfl); (intro wo hT; (repeat (first | (intro v hv; (fail)) | (intro _ _ k; try have hcv := cv k))); (have mc := (F6.below hT).cell; have hsz : w5.heap.size ≤ wo.heap.size := Nat.le_trans v6s hT.size); refine Goes.mk ?_; first | (exact goes_app _ _ rfl rfl (OL.below hT) rfl (by assumption) (by omega) hsz) | (go_simp; first | exact goes_v | exact goes_b (by assumption) | fail | (refine goes_enter ?_; first | (go_at_call 70; ((with_reducible refine (two_any z z0 z1 wo).mono ?_); rintro e w9 ⟨A9, c9, rfl, ho9, hB9⟩); exact ret_b ho9.bs hB9) | (go_at_call 70; ((with_reducible refine (two_any call ca0 ca1 wo).mono ?_); rintro e w9 ⟨A9, c9, rfl, ho9, hB9⟩); exact ret_b ho9.bs hB9))))) | (apply ObsK.b (by rfl); (intro wo hT; (repeat (first | (intro v hv; (fail)) | (intro _ _ k; try have hcv := cv k))); (have mc := (F6.below hT).cell; have hsz : w5.heap.size ≤ wo.heap.size := Nat.le_trans v6s hT.size); refine Goes.mk ?_; first | (exact goes_app _ _ rfl rfl (OL.below hT) rfl (by assumption) (by omega) hsz) | (go_simp; first | exact goes_v | exact goes_b (by assumption) | fail | (refine goes_enter ?_; first | (go_at_call 70; ((with_reducible refine (two_any z z0 z1 wo).mono ?_); rintro e w9 ⟨A9, c9, rfl, ho9, hB9⟩); exact ret_b ho9.bs hB9) | (go_at_call 70; ((with_reducible refine (two_any call ca0 ca1 wo).mono ?_); rintro e w9 ⟨A9, c9, rfl, ho9, hB9⟩); exact ret_b ho9.bs hB9))))) | (apply ObsK.p (q := isW w5.heap.size _) (by rfl) st_isW; (intro wo hT; (repeat (first | (intro v hv; (fail)) | (intro _ _ k; try have hcv := cv k))); (have mc := (F6.below hT).cell; have hsz : w5.heap.size ≤ wo.heap.size := Nat.le_trans v6s hT.size); refine Goes.mk ?_; first | (exact goes_app _ _ rfl rfl (OL.below hT) rfl (by assumption) (by omega) hsz) | (go_simp; first | exact goes_v | exact goes_b (by assumption) | fail | (refine goes_enter ?_; first | (go_at_call 70; ((with_reducible refine (two_any z z0 z1 wo).mono ?_); rintro e w9 ⟨A9, c9, rfl, ho9, hB9⟩); exact ret_b ho9.bs hB9) | (go_at_call 70; ((with_reducible refine (two_any call ca0 ca1 wo).mono ?_); rintro e w9 ⟨A9, c9, rfl, ho9, hB9⟩); exact ret_b ho9.bs hB9))))))); refine ObsK.nil ?_; intro wz hBz; simp only [finOn, List.drop_succ_cons, List.drop_zero, List.drop_nil]
  rintro A9 c9 k9 v7 ⟨A7, n7, c7, rfl, O7⟩ A8 c8 k8
  go_simp
  have u7 : n7 = 6 := by rw [← O7.len]; rfl
  subst u7
  have V7 := below_then V6 hBz
  have F7 := F1.below (below_then T5 V7)
  have mc7 := F7.cell
  clear k8
  go_wp2_with (first
    | (at_builtin; refine wpList_append_bs (w0 := w5) _ rfl _ _ _ rfl w5.heap.size 5 Tryz.underlying24 info_u8 A7 6 c7 _ rfl O7 A9 2 c9 (two call) rfl k9 V7 (by omega) (by first | exact Nat.le_refl _ | exact Below.size V7 | omega | (simp <;> omega)) ?_; intro A10 n10 c10 w10 ho10 hB10 _ hz10; have u10 : n10 = 8 := (by rw [← ho10.len]; rfl); subst u10; rw [H0.out] at ho10; (obtain ⟨g10, rfl, ge10, gt10⟩ := ho10.ptr (by omega)); have a10 := ho10.at_ (i := 0) (by omega); have a11 := ho10.at_ (i := 1) (by omega); have gk10 : k + 1 + 1 < g10 := (by omega); have F10 := F1.below (below_then T5 hB10); have mc10 := F10.cell; have pc10 := (P1.below (below_then T5 hB10)).cell; have zc10 := (Z1.below (below_then T5 hB10)).cell))
  have S12 : Own (w10.setCell ⟨g10, 0, none⟩ (.int .u8 48)) w5.heap.size 5 (some ⟨g10, 0, none⟩) 8 c10 (grB true false ++ two z ++ two call) := by
    have := ho10.set_ (i := 0) (by omega) 48 (y := 48) (by omega)
    exact this
  have B12 := hB10.setCell (p := ⟨g10, 0, none⟩) (by omega) (.int .u8 48)
  have M12 := (F1.below (below_then T5 B12)).cell
  have MP12 := (P1.below (below_then T5 B12)).cell
  obtain ⟨w12, hw12⟩ : ∃ w12, w10.setCell ⟨g10, 0, none⟩ (.int .u8 48) = w12 := ⟨_, rfl⟩
  rw [hw12] at S12 B12 M12 MP12 ⊢
  have bs12 := B12.size
  refine (four_any seq se0 se1 _).mono ?_
  rintro e w13 ⟨A13, c13, rfl, ho13, hB13⟩
  have S13 := S12.below hB13
  have B13 := below_then B12 hB13
  go_wp2_with (first
    | (at_builtin; refine wpList_append_bs (w0 := w5) _ rfl _ _ _ rfl w5.heap.size 5 Tryz.underlying24 info_u8 (some ⟨g10, 0, none⟩) 8 c10 _ rfl S13 A13 4 c13 (four seq) rfl ho13.bs B13 (by omega) (by first | exact Nat.le_refl _ | exact Below.size B13 | omega | (simp <;> omega)) ?_; intro A14 n14 c14 w14 ho14 hB14 _ hz14; have u14 : n14 = 12 := (by rw [← ho14.len]; rfl); subst u14; (obtain ⟨g14, rfl, ge14, gt14⟩ := ho14.ptr (by omega)); have a141 := ho14.at_ (i := 1) (by omega); have gk14 : k + 1 + 1 < g14 := (by omega); have F14 := F1.below (below_then T5 hB14); have mc14 := F14.cell; have pc14 := (P1.below (below_then T5 hB14)).cell; have zc14 := (Z1.below (below_then T5 hB14)).cell))
  have Tc := below_then T5 hB14
  have Pc := P1.below Tc
  have Fc := F1.below Tc
  have Zc := Z1.below Tc
  have pcc := Pc.cell
  have fcc := Fc.cell
  have zcc := Zc.cell
  have yc := y1.below Tc
  have xc := x1.below Tc
  have gtc := ho14.at_ (i := 0) (by omega)
  have hw1' := hok
  clear hok
  refine regionX 8 [4] g14 (fun c W => match c with | 0 => Own W w5.heap.size 5 (some ⟨g14, 0, none⟩) 12 c14 ((grB true false ++ two z ++ two call) ++ four seq) | _ + 1 => True) (by kernel_rfl) (by kernel_rfl) (by kernel_rfl) ho14 (fun c W W' hj hb => by cases c with | zero => exact Own.below hj hb | succ n => trivial) ?_; (iterate 8 (first | (apply ObsX.skip (by rfl) (by rfl)) | (apply ObsX.v (by rfl) (by rfl); (intro wo hE; (repeat (first | (intro v hv; ((first | (obtain ⟨Ap, np, cp, rfl, op⟩ := hv; have obp := op.bs) | (obtain ⟨D1, g1, h1', D2, g2, h2', rfl, o13, o14⟩ := hv)))) | (intro _ _ k; try have hcv := cv k))); (have pco := (Pc.ext hE (by omega)).cell; have mco := (Fc.ext hE (by omega)).cell; have xo := x1.below (below_ext Tc hE (by omega) Tc.size); have yo := y1.below (below_ext Tc hE (by omega) Tc.size); have hsz := hE.size); refine Goes.mk ?_; first | (exact goes_appX _ _ rfl rfl hj (fun k e => by simp [Value.ownBlock] at e; exact e.symm) rfl yo (by omega) (by omega) (fun _ => trivial)) | (go_simp; first | exact goes_v | exact goes_pk (by assumption) (by assumption) | (refine goes_enter ?_; first | (go_at_call 37; ((with_reducible refine (hw1' wo Ap np cp xo obp).mono ?_); rintro e w12 ⟨⟨D1, g1, h1', D2, g2, h2', rfl, O13, O14, hB12⟩⟩); exact ret_tup (O13.mono hsz) (O14.mono hsz) hB12))))) | (apply ObsX.p (q := isTup w14.heap.size Q E) (by rfl) (by rfl) st_isTup (sx_isTup (by omega)); (intro wo hE; (repeat (first | (intro v hv; ((first | (obtain ⟨Ap, np, cp, rfl, op⟩ := hv; have obp := op.bs) | (obtain ⟨D1, g1, h1', D2, g2, h2', rfl, o13, o14⟩ := hv)))) | (intro _ _ k; try have hcv := cv k))); (have pco := (Pc.ext hE (by omega)).cell; have mco := (Fc.ext hE (by omega)).cell; have xo := x1.below (below_ext Tc hE (by omega) Tc.size); have yo := y1.below (below_ext Tc hE (by omega) Tc.size); have hsz := hE.size); refine Goes.mk ?_; first | (exact goes_appX _ _ rfl rfl hj (fun k e => by simp [Value.ownBlock] at e; exact e.symm) rfl yo (by omega) (by omega) (fun _ => trivial)) | (go_simp; first | exact goes_v | exact goes_pk (by assumption) (by assumption) | (refine goes_enter ?_; first | (go_at_call 37; ((with_reducible refine (hw1' wo Ap np cp xo obp).mono ?_); rintro e w12 ⟨⟨D1, g1, h1', D2, g2, h2', rfl, O13, O14, hB12⟩⟩); exact ret_tup (O13.mono hsz) (O14.mono hsz) hB12))))) | (apply ObsX.p (q := isPk w14.heap.size Q) (by rfl) (by rfl) st_isPk (sx_isPk (by omega)); (intro wo hE; (repeat (first | (intro v hv; ((first | (obtain ⟨Ap, np, cp, rfl, op⟩ := hv; have obp := op.bs) | (obtain ⟨D1, g1, h1', D2, g2, h2', rfl, o13, o14⟩ := hv)))) | (intro _ _ k; try have hcv := cv k))); (have pco := (Pc.ext hE (by omega)).cell; have mco := (Fc.ext hE (by omega)).cell; have xo := x1.below (below_ext Tc hE (by omega) Tc.size); have yo := y1.below (below_ext Tc hE (by omega) Tc.size); have hsz := hE.size); refine Goes.mk ?_; first | (exact goes_appX _ _ rfl rfl hj (fun k e => by simp [Value.ownBlock] at e; exact e.symm) rfl yo (by omega) (by omega) (fun _ => trivial)) | (go_simp; first | exact goes_v | exact goes_pk (by assumption) (by assumption) | (refine goes_enter ?_; first | (go_at_call 37; ((with_reducible refine (hw1' wo Ap np cp xo obp).mono ?_); rintro e w12 ⟨⟨D1, g1, h1', D2, g2, h2', rfl, O13, O14, hB12⟩⟩); exact ret_tup (O13.mono hsz) (O14.mono hsz) hB12))))) | (apply ObsX.ev (by rfl) (by rfl); (intro wo hE hj; (repeat (first | (intro v hv; ((first | (obtain ⟨Ap, np, cp, rfl, op⟩ := hv; have obp := op.bs) | (obtain ⟨D1, g1, h1', D2, g2, h2', rfl, o13, o14⟩ := hv)))) | (intro _ _ k; try have hcv := cv k))); (have pco := (Pc.ext hE (by omega)).cell; have mco := (Fc.ext hE (by omega)).cell; have xo := x1.below (below_ext Tc hE (by omega) Tc.size); have yo := y1.below (below_ext Tc hE (by omega) Tc.size); have hsz := hE.size); refine GoesX.mk ?_; first | (exact goes_appX _ _ rfl rfl hj (fun k e => by simp [Value.ownBlock] at e; exact e.symm) rfl yo (by omega) (by omega) (fun _ => trivial)) | (go_simp; first | exact goes_v | exact goes_pk (by assumption) (by assumption) | (refine goes_enter ?_; first | (go_at_call 37; ((with_reducible refine (hw1' wo Ap np cp xo obp).mono ?_); rintro e w12 ⟨⟨D1, g1, h1', D2, g2, h2', rfl, O13, O14, hB12⟩⟩); exact ret_tup (O13.mono hsz) (O14.mono hsz) hB12))))) | (apply ObsX.ep (q := isTup w14.heap.size Q E) (by rfl) (by rfl) (by rfl) st_isTup; (intro wo hE hj; (repeat (first | (intro v hv; ((first | (obtain ⟨Ap, np, cp, rfl, op⟩ := hv; have obp := op.bs) | (obtain ⟨D1, g1, h1', D2, g2, h2', rfl, o13, o14⟩ := hv)))) | (intro _ _ k; try have hcv := cv k))); (have pco := (Pc.ext hE (by omega)).cell; have mco := (Fc.ext hE (by omega)).cell; have xo := x1.below (below_ext Tc hE (by omega) Tc.size); have yo := y1.below (below_ext Tc hE (by omega) Tc.size); have hsz := hE.size); refine GoesX.mk ?_; first | (exact goes_appX _ _ rfl rfl hj (fun k e => by simp [Value.ownBlock] at e; exact e.symm) rfl yo (by omega) (by omega) (fun _ => trivial)) | (go_simp; first | exact goes_v | exact goes_pk (by assumption) (by assumption) | (refine goes_enter ?_; first | (go_at_call 37; ((with_reducible refine (hw1' wo Ap np cp xo obp).mono ?_); rintro e w12 ⟨⟨D1, g1, h1', D2, g2, h2', rfl, O13, O14, hB12⟩⟩); exact ret_tup (O13.mono hsz) (O14.mono hsz) hB12))))) | (apply ObsX.ep (q := isPk w14.heap.size Q) (by rfl) (by rfl) (by rfl) st_isPk; (intro wo hE hj; (repeat (first | (intro v hv; ((first | (obtain ⟨Ap, np, cp, rfl, op⟩ := hv; have obp := op.bs) | (obtain ⟨D1, g1, h1', D2, g2, h2', rfl, o13, o14⟩ := hv)))) | (intro _ _ k; try have hcv := cv k))); (have pco := (Pc.ext hE (by omega)).cell; have mco := (Fc.ext hE (by omega)).cell; have xo := x1.below (below_ext Tc hE (by omega) Tc.size); have yo := y1.below (below_ext Tc hE (by omega) Tc.size); have hsz := hE.size); refine GoesX.mk ?_; first | (exact goes_appX _ _ rfl rfl hj (fun k e => by simp [Value.ownBlock] at e; exact e.symm) rfl yo (by omega) (by omega) (fun _ => trivial)) | (go_simp; first | exact goes_v | exact goes_pk (by assumption) (by assumption) | (refine goes_enter ?_; first | (go_at_call 37; ((with_reducible refine (hw1' wo Ap np cp xo obp).mono ?_); rintro e w12 ⟨⟨D1, g1, h1', D2, g2, h2', rfl, O13, O14, hB12⟩⟩); exact ret_tup (O13.mono hsz) (O14.mono hsz) hB12))))) | (apply ObsX.ep (q := isW w5.heap.size _) (by rfl) (by rfl) (by rfl) st_isW; (intro wo hE hj; (repeat (first | (intro v hv; ((first | (obtain ⟨Ap, np, cp, rfl, op⟩ := hv; have obp := op.bs) | (obtain ⟨D1, g1, h1', D2, g2, h2', rfl, o13, o14⟩ := hv)))) | (intro _ _ k; try have hcv := cv k))); (have pco := (Pc.ext hE (by omega)).cell; have mco := (Fc.ext hE (by omega)).cell; have xo := x1.below (below_ext Tc hE (by omega) Tc.size); have yo := y1.below (below_ext Tc hE (by omega) Tc.size); have hsz := hE.size); refine GoesX.mk ?_; first | (exact goes_appX _ _ rfl rfl hj (fun k e => by simp [Value.ownBlock] at e; exact e.symm) rfl yo (by omega) (by omega) (fun _ => trivial)) | (go_simp; first | exact goes_v | exact goes_pk (by assumption) (by assumption) | (refine goes_enter ?_; first | (go_at_call 37; ((with_reducible refine (hw1' wo Ap np cp xo obp).mono ?_); rintro e w12 ⟨⟨D1, g1, h1', D2, g2, h2', rfl, O13, O14, hB12⟩⟩); exact ret_tup (O13.mono hsz) (O14.mono hsz) hB12))))))); refine ObsX.nil ?_; intro wz hEz hJz; simp only [finOn, List.drop_succ_cons, List.drop_zero, List.drop_nil]
  rintro v12 ⟨D1, g1, h1', D2, g2, h2', rfl, O13, O14⟩ v13 hv13 v14 hv14
  clear hv13 hv14
  go_simp
  have Zz := Zc.ext hEz (by omega)
  have zcz := Zz.cell
  have Tz := below_ext Tc hEz (by omega) Tc.size
  have r1s := R1.size
  go_wp2_with fail
  obtain ⟨wf, hwf, Sf⟩ := store9 Zz (.int .u8 Q.tos) (.int .u16 Q.id) (.bool Q.keep) (.int .u8 Q.ttl) (.int .u8 Q.proto) (.int .u32 Q.src) (.int .u32 Q.dst) (.slice D1 g1 h1') (.slice D2 g2 h2')
  rw [hwf]
  have pf := Sf.blk.cell
  have Of := Sf.own O13 (fun a e => by have := O13.ge a e; omega)
  have Df := Sf.own O14 (fun a e => by have := O14.ge a e; omega)
  have tcs := Tc.size
  refine bodyPost_ret (v := .tuple #[(.agg #[.int .u8 (Q).tos, .int .u16 (Q).id, .bool (Q).keep, .int .u8 (Q).ttl, .int .u8 (Q).proto, .int .u32 (Q).src, .int .u32 (Q).dst, .slice D1 g1 h1', .slice D2 g2 h2']), .int .i64 E]) (by simp [results, Tryz.results43, go_sem, pf]) rfl ⟨⟨D1, g1, h1', D2, g2, h2', rfl, Of.mono (by omega), Df.mono (by omega), Sf.bel (below_then R1 Tz) (by omega)⟩⟩
theorem rbg_ok11 (p : Pkt) (A1 : Option Addr) (n1 c1 : Nat) (A2 : Option Addr) (n2 c2 : Nat) (call : Int) (seq ack : Int) (dat : List UInt8) (B1 : Option Addr) (m1 d1 : Nat) (w : World) (k1 : Bs w A1 n1 c1 p.opt) (j1 : Bs w B1 m1 d1 dat)
    (hca : 0 ≤ call ∧ call ≤ 65535) (hse : 0 ≤ seq ∧ seq ≤ 4294967295) (hak : 0 ≤ ack ∧ ack ≤ 4294967295) (h1 : (n1 : Int) ≤ 40) (h2 : n1 % 4 = 0) (Q : Pkt) (E : Int) (h3 : 20 + (n1 : Int) + 16 + m1 ≤ 65535) (hok : ∀ W A n c, Bs W A1 n1 c1 p.opt → Bs W A n c ((((grB true true ++ two ((m1 : Int) % 65536) ++ two call) ++ four seq) ++ four ack) ++ dat) → Calls Tryz.prog 37 #[(.agg #[.int .u8 (p).tos, .int .u16 (p).id, .bool (p).keep, .int .u8 (p).ttl, .int .u8 (p).proto, .int .u32 (p).src, .int .u32 (p).dst, .slice A1 n1 c1, .slice A2 n2 c2]), .int .u8 47, .slice A n c] W (WiPost W Q E)) :
    Calls Tryz.prog 43 #[(.agg #[.int .u8 (p).tos, .int .u16 (p).id, .bool (p).keep, .int .u8 (p).ttl, .int .u8 (p).proto, .int .u32 (p).src, .int .u32 (p).dst, .slice A1 n1 c1, .slice A2 n2 c2]), .agg #[.int .u16 call, .bool true, .bool true, .int .u32 seq, .int .u32 ack, .slice B1 m1 d1]] w (WiPost w Q E) := by
  have hw0 : ∀ W, Bs W A1 n1 c1 p.opt → Calls Tryz.prog 37 #[(.agg #[.int .u8 (p).tos, .int .u16 (p).id, .bool (p).keep, .int .u8 (p).ttl, .int .u8 (p).proto, .int .u32 (p).src, .int .u32 (p).dst, .slice A1 n1 c1, .slice A2 n2 c2]), .int .u8 47, .slice none 0 0] W (fun e w' => ∃ C1 e1 f1 C2 e2 f2, e = .returned (.tuple #[.agg #[.int .u8 p.tos, .int .u16 p.id, .bool p.keep, .int .u8 p.ttl, .int .u8 47, .int .u32 p.src, .int .u32 p.dst, .slice C1 e1 f1, .slice C2 e2 f2], .int .i64 0]) ∧ Own w' W.heap.size 5 C1 e1 f1 p.opt ∧ Own w' W.heap.size 5 C2 e2 f2 [] ∧ Below W.heap.size W w') := fun W kk => by
    have hh := rwith_any p A1 n1 c1 A2 n2 c2 47 none 0 0 [] W kk (Bs.none_ W)
    unfold withP at hh
    rw [show ([] : List UInt8).length = 0 from rfl, wiE_0 k1.len h1 h2 (by omega), if_pos rfl] at hh
    exact hh.mono fun e w' hq => hq.out
  have b1 := j1.max
  obtain ⟨ca0, ca1⟩ := hca
  obtain ⟨se0, se1⟩ := hse
  obtain ⟨ak0, ak1⟩ := hak
  obtain ⟨z, hz⟩ : ∃ z : Int, (m1 : Int) % 65536 = z := ⟨_, rfl⟩
  have z0 : 0 ≤ z := by omega
  have z1 : z ≤ 65535 := by omega
  have hzw : IntKind.u16.wrap (m1 : Int) = z := by rw [← hz]; simp [IntKind.wrap, IntKind.signed, IntKind.bits]
  rw [hz] at hok
  have L4 := fun W => lit4 (e := 5) (x := 32) (y := 1) (z := 136) (u := 11) (by omega) (by omega) (by omega) (by omega) (by omega) (by omega) (by omega) (by omega) W
  have H0 : Hid ([ub 32, ub 1, ub 136, ub 11] ++ two z ++ two call = grB false false ++ two z ++ two call) := rfl
  obtain ⟨k, hk⟩ : ∃ k : Nat, w.heap.size = k := ⟨_, rfl⟩
  obtain ⟨w1, hw1⟩ : ∃ w1, ((w.alloc (.cells #[.int .u8 (p).tos, .int .u16 (p).id, .bool (p).keep, .int .u8 (p).ttl, .int .u8 (p).proto, .int .u32 (p).src, .int .u32 (p).dst, .slice A1 n1 c1, .slice A2 n2 c2] 26)).alloc (.cells #[.int .u16 call, .bool true, .bool true, .int .u32 seq, .int .u32 ack, .slice B1 m1 d1] 68)).alloc (.cells #[.int .u8 0, .int .u16 0, .bool false, .int .u8 0, .int .u8 0, .int .u32 0, .int .u32 0, .slice none 0 0, .slice none 0 0] 26) = w1 := ⟨_, rfl⟩
  have P1 : Blk w1 k #[.int .u8 (p).tos, .int .u16 (p).id, .bool (p).keep, .int .u8 (p).ttl, .int .u8 (p).proto, .int .u32 (p).src, .int .u32 (p).dst, .slice A1 n1 c1, .slice A2 n2 c2] 26 := by rw [← hw1]; exact ((blk_new w _ _ k hk).alloc _).alloc _
  have F1 : Blk w1 (k + 1) #[.int .u16 call, .bool true, .bool true, .int .u32 seq, .int .u32 ack, .slice B1 m1 d1] 68 := by rw [← hw1]; exact (blk_new _ _ _ (k + 1) (by simp [hk])).alloc _
  have Z1 : Blk w1 (k + 1 + 1) #[.int .u8 0, .int .u16 0, .bool false, .int .u8 0, .int .u8 0, .int .u32 0, .int .u32 0, .slice none 0 0, .slice none 0 0] 26 := by rw [← hw1]; exact blk_new _ _ _ (k + 1 + 1) (by simp [hk])
  have R1 : Below w.heap.size w w1 := by first | exact bw1 hw1 | exact bw2 hw1 | exact bw3 hw1 | exact bw4 hw1
  have x1 := k1.below R1
  have y1 := j1.below R1
  have pc := P1.cell
  have mc := F1.cell
  have zc := Z1.cell
  have zl1 := Z1.lt
  go_enter Tryz.func43, Tryz.ntmps43
  go_wp2_with (go_at_call 37; ((with_reducible refine (hw0 w1 x1).mono ?_); rintro e w4 ⟨C1, e1, f1, C2, e2, f2, rfl, O1, O2, hB4⟩); (obtain ⟨w5, hw5⟩ : ∃ w5, w4.alloc (.cells #[.int .u8 p.tos, .int .u16 p.id, .bool p.keep, .int .u8 p.ttl, .int .u8 47, .int .u32 p.src, .int .u32 p.dst, .slice C1 e1 f1, .slice C2 e2 f2] 26) = w5 := ⟨_, rfl⟩); have V5 : Below w4.heap.size w4 w5 := (by first | exact bw1 hw5 | exact bw2 hw5 | exact bw3 hw5 | exact bw4 hw5); have T5 := below_then hB4 V5; have P5 := P1.below T5; have F5 := F1.below T5; have Z5 := Z1.below T5; have zc5 := Z5.cell)
  obtain ⟨w6, hw6⟩ : ∃ w6, w5.alloc (.cells #[.int .u8 32, .int .u8 1, .int .u8 136, .int .u8 11] 5) = w6 := ⟨_, rfl⟩
  have OL := L4 w5
  have V6 : Below w5.heap.size w5 w6 := by first | exact bw1 hw6 | exact bw2 hw6 | exact bw3 hw6 | exact bw4 hw6
  rw [hw6] at OL ⊢
  have T6 := below_then T5 V6
  have F6 := F1.below T6
  have v6s := V6.size
  have v5s := T5.size
  have zl5 := Z5.lt
  clear hw6 hw5 zc5 pc mc zc hw1
  refine region_txt 10 (by kernel_rfl) (by kernel_rfl) ?_; (iterate 10 (first | (apply ObsK.skip (by rfl)) | (apply ObsK.v (by rfl); (intro wo hT; (repeat (first | (intro v hv; (fail)) | (intro _ _ k; try have hcv := cv k))); (have mc := (F6.below hT).cell; have hsz : w5.heap.size ≤ wo.heap.size := Nat.le_trans v6s hT.size); refine Goes.mk ?_; first | (exact goes_app _ _ rfl rfl (OL.below hT) rfl (by assumption) (by omega) hsz) | (go_simp; first | exact goes_v | exact goes_b (by assumption) | fail | (refine goes_enter ?_; first | (go_at_call 70; ((with_reducible refine (two_any z z0 z1 wo).mono ?_); rintro e w9 ⟨A9, c9, rfl, ho9, hB9⟩); exact ret_b ho9.bs hB9) | (go_at_call 70; ((with_reducible refine (two_any call ca0 ca1 wo).mono ?_); rintro e w9 ⟨A9, c9, rfl, ho9, hB9⟩); exact ret_b ho9.bs hB9))))) | (apply ObsK.b (by rfl); (intro wo hT; (repeat (first | (intro v hv; (fail)) | (intro _ _ k; try have hcv := cv k))); (have mc := (F6.below hT).cell; have hsz : w5.heap.size ≤ wo.heap.size := Nat.le_trans v6s hT.size); refine Goes.mk ?_; first | (exact goes_app _ _ rfl rfl (OL.below hT) rfl (by assumption) (by omega) hsz) | (go_simp; first | exact goes_v | exact goes_b (by assumption) | fail | (refine goes_enter ?_; first | (go_at_call 70; ((with_reducible refine (two_any z z0 z1 wo).mono ?_); rintro e w9 ⟨A9, c9, rfl, ho9, hB9⟩); exact ret_b ho9.bs hB9) | (go_at_call 70; ((with_reducible refine (two_any call ca0 ca1 wo).mono ?_); rintro e w9 ⟨A9, c9, rfl, ho9, hB9⟩); exact ret_b ho9.bs hB9))))) | (apply ObsK.p (q := isW w5.heap.size _) (by rfl) st_isW; (intro wo hT; (repeat (first | (intro v hv; (fail)) | (intro _ _ k; try have hcv := cv k))); (have mc := (F6.below hT).cell; have hsz : w5.heap.size ≤ wo.heap.size := Nat.le_trans v6s hT.size); refine Goes.mk ?_; first | (exact goes_app _ _ rfl rfl (OL.below hT) rfl (by assumption) (by omega) hsz) | (go_simp; first | exact goes_v | exact goes_b (by assumption) | fail | (refine goes_enter ?_; first | (go_at_call 70; ((with_reducible refine (two_any z z0 z1 wo).mono ?_); rintro e w9 ⟨A9, c9, rfl, ho9, hB9⟩); exact ret_b ho9.bs hB9) | (go_at_call 70; ((with_reducible refine (two_any call ca0 ca1 wo).mono ?_); rintro e w9 ⟨A9, c9, rfl, ho9, hB9⟩); exact ret_b ho9.bs hB9))))))); refine ObsK.nil ?_; intro wz hBz; simp only [finOn, List.drop_succ_cons, List.drop_zero, List.drop_nil]
  rintro A9 c9 k9 v7 ⟨A7, n7, c7, rfl, O7⟩ A8 c8 k8
  go_simp
  have u7 : n7 = 6 := by rw [← O7.len]; rfl
  subst u7
  have V7 := below_then V6 hBz
  have F7 := F1.below (below_then T5 V7)
  have mc7 := F7.cell
  clear k8
  go_wp2_with (first
    | (at_builtin; refine wpList_append_bs (w0 := w5) _ rfl _ _ _ rfl w5.heap.size 5 Tryz.underlying24 info_u8 A7 6 c7 _ rfl O7 A9 2 c9 (two call) rfl k9 V7 (by omega) (by first | exact Nat.le_refl _ | exact Below.size V7 | omega | (simp <;> omega)) ?_; intro A10 n10 c10 w10 ho10 hB10 _ hz10; have u10 : n10 = 8 := (by rw [← ho10.len]; rfl); subst u10; rw [H0.out] at ho10; (obtain ⟨g10, rfl, ge10, gt10⟩ := ho10.ptr (by omega)); have a10 := ho10.at_ (i := 0) (by omega); have a11 := ho10.at_ (i := 1) (by omega); have gk10 : k + 1 + 1 < g10 := (by omega); have F10 := F1.below (below_then T5 hB10); have mc10 := F10.cell; have pc10 := (P1.below (below_then T5 hB10)).cell; have zc10 := (Z1.below (below_then T5 hB10)).cell))
  have S12 : Own (w10.setCell ⟨g10, 0, none⟩ (.int .u8 48)) w5.heap.size 5 (some ⟨g10, 0, none⟩) 8 c10 (grB true false ++ two z ++ two call) := by
    have := ho10.set_ (i := 0) (by omega) 48 (y := 48) (by omega)
    exact this
  have B12 := hB10.setCell (p := ⟨g10, 0, none⟩) (by omega) (.int .u8 48)
  have M12 := (F1.below (below_then T5 B12)).cell
  have MP12 := (P1.below (below_then T5 B12)).cell
  obtain ⟨w12, hw12⟩ : ∃ w12, w10.setCell ⟨g10, 0, none⟩ (.int .u8 48) = w12 := ⟨_, rfl⟩
  rw [hw12] at S12 B12 M12 MP12 ⊢
  have bs12 := B12.size
  refine (four_any seq se0 se1 _).mono ?_
  rintro e w13 ⟨A13, c13, rfl, ho13, hB13⟩
  have S13 := S12.below hB13
  have B13 := below_then B12 hB13
  go_wp2_with (first
    | (at_builtin; refine wpList_append_bs (w0 := w5) _ rfl _ _ _ rfl w5.heap.size 5 Tryz.underlying24 info_u8 (some ⟨g10, 0, none⟩) 8 c10 _ rfl S13 A13 4 c13 (four seq) rfl ho13.bs B13 (by omega) (by first | exact Nat.le_refl _ | exact Below.size B13 | omega | (simp <;> omega)) ?_; intro A14 n14 c14 w14 ho14 hB14 _ hz14; have u14 : n14 = 12 := (by rw [← ho14.len]; rfl); subst u14; (obtain ⟨g14, rfl, ge14, gt14⟩ := ho14.ptr (by omega)); have a141 := ho14.at_ (i := 1) (by omega); have gk14 : k + 1 + 1 < g14 := (by omega); have F14 := F1.below (below_then T5 hB14); have mc14 := F14.cell; have pc14 := (P1.below (below_then T5 hB14)).cell; have zc14 := (Z1.below (below_then T5 hB14)).cell))
  have S16 : Own (w14.setCell ⟨g14, 1, none⟩ (.int .u8 129)) w5.heap.size 5 (some ⟨g14, 0, none⟩) 12 c14 ((grB true true ++ two z ++ two call) ++ four seq) := by
    have := ho14.set_ (i := 1) (by omega) 129 (y := 129) (by omega)
    exact this
  have B16 := hB14.setCell (p := ⟨g14, 1, none⟩) (by omega) (.int .u8 129)
  have M16 := (F1.below (below_then T5 B16)).cell
  have MP16 := (P1.below (below_then T5 B16)).cell
  obtain ⟨w16, hw16⟩ : ∃ w16, w14.setCell ⟨g14, 1, none⟩ (.int .u8 129) = w16 := ⟨_, rfl⟩
  rw [hw16] at S16 B16 M16 MP16 ⊢
  have bs16 := B16.size
  refine (four_any ack ak0 ak1 _).mono ?_
  rintro e w17 ⟨A17, c17, rfl, ho17, hB17⟩
  have S17 := S16.below hB17
  have B17 := below_then B16 hB17
  go_wp2_with (first
    | (at_builtin; refine wpList_append_bs (w0 := w5) _ rfl _ _ _ rfl w5.heap.size 5 Tryz.underlying24 info_u8 (some ⟨g14, 0, none⟩) 12 c14 _ rfl S17 A17 4 c17 (four ack) rfl ho17.bs B17 (by omega) (by first | exact Nat.le_refl _ | exact Below.size B17 | omega | (simp <;> omega)) ?_; intro A18 n18 c18 w18 ho18 hB18 _ hz18; have u18 : n18 = 16 := (by rw [← ho18.len]; rfl); subst u18; (obtain ⟨g18, rfl, ge18, gt18⟩ := ho18.ptr (by omega)); have a181 := ho18.at_ (i := 1) (by omega); have gk18 : k + 1 + 1 < g18 := (by omega); have F18 := F1.below (below_then T5 hB18); have mc18 := F18.cell; have pc18 := (P1.below (below_then T5 hB18)).cell; have zc18 := (Z1.below (below_then T5 hB18)).cell))
  have Tc := below_then T5 hB18
  have Pc := P1.below Tc
  have Fc := F1.below Tc
  have Zc := Z1.below Tc
  have pcc := Pc.cell
  have fcc := Fc.cell
  have zcc := Zc.cell
  have yc := y1.below Tc
  have xc := x1.below Tc
  have gtc := ho18.at_ (i := 0) (by omega)
  have hw1' := hok
  clear hok
  refine regionX 8 [4] g18 (fun c W => match c with | 0 => Own W w5.heap.size 5 (some ⟨g18, 0, none⟩) 16 c18 (((grB true true ++ two z ++ two call) ++ four seq) ++ four ack) | _ + 1 => True) (by kernel_rfl) (by kernel_rfl) (by kernel_rfl) ho18 (fun c W W' hj hb => by cases c with | zero => exact Own.below hj hb | succ n => trivial) ?_; (iterate 8 (first | (apply ObsX.skip (by rfl) (by rfl)) | (apply ObsX.v (by rfl) (by rfl); (intro wo hE; (repeat (first | (intro v hv; ((first | (obtain ⟨Ap, np, cp, rfl, op⟩ := hv; have obp := op.bs) | (obtain ⟨D1, g1, h1', D2, g2, h2', rfl, o13, o14⟩ := hv)))) | (intro _ _ k; try have hcv := cv k))); (have pco := (Pc.ext hE (by omega)).cell; have mco := (Fc.ext hE (by omega)).cell; have xo := x1.below (below_ext Tc hE (by omega) Tc.size); have yo := y1.below (below_ext Tc hE (by omega) Tc.size); have hsz := hE.size); refine Goes.mk ?_; first | (exact goes_appX _ _ rfl rfl hj (fun k e => by simp [Value.ownBlock] at e; exact e.symm) rfl yo (by omega) (by omega) (fun _ => trivial)) | (go_simp; first | exact goes_v | exact goes_pk (by assumption) (by assumption) | (refine goes_enter ?_; first | (go_at_call 37; ((with_reducible refine (hw1' wo Ap np cp xo obp).mono ?_); rintro e w12 ⟨⟨D1, g1, h1', D2, g2, h2', rfl, O13, O14, hB12⟩⟩); exact ret_tup (O13.mono hsz) (O14.mono hsz) hB12))))) | (apply ObsX.p (q := isTup w18.heap.size Q E) (by rfl) (by rfl) st_isTup (sx_isTup (by omega)); (intro wo hE; (repeat (first | (intro v hv; ((first | (obtain ⟨Ap, np, cp, rfl, op⟩ := hv; have obp := op.bs) | (obtain ⟨D1, g1, h1', D2, g2, h2', rfl, o13, o14⟩ := hv)))) | (intro _ _ k; try have hcv := cv k))); (have pco := (Pc.ext hE (by omega)).cell; have mco := (Fc.ext hE (by omega)).cell; have xo := x1.below (below_ext Tc hE (by omega) Tc.size); have yo := y1.below (below_ext Tc hE (by omega) Tc.size); have hsz := hE.size); refine Goes.mk ?_; first | (exact goes_appX _ _ rfl rfl hj (fun k e => by simp [Value.ownBlock] at e; exact e.symm) rfl yo (by omega) (by omega) (fun _ => trivial)) | (go_simp; first | exact goes_v | exact goes_pk (by assumption) (by assumption) | (refine goes_enter ?_; first | (go_at_call 37; ((with_reducible refine (hw1' wo Ap np cp xo obp).mono ?_); rintro e w12 ⟨⟨D1, g1, h1', D2, g2, h2', rfl, O13, O14, hB12⟩⟩); exact ret_tup (O13.mono hsz) (O14.mono hsz) hB12))))) | (apply ObsX.p (q := isPk w18.heap.size Q) (by rfl) (by rfl) st_isPk (sx_isPk (by omega)); (intro wo hE; (repeat (first | (intro v hv; ((first | (obtain ⟨Ap, np, cp, rfl, op⟩ := hv; have obp := op.bs) | (obtain ⟨D1, g1, h1', D2, g2, h2', rfl, o13, o14⟩ := hv)))) | (intro _ _ k; try have hcv := cv k))); (have pco := (Pc.ext hE (by omega)).cell; have mco := (Fc.ext hE (by omega)).cell; have xo := x1.below (below_ext Tc hE (by omega) Tc.size); have yo := y1.below (below_ext Tc hE (by omega) Tc.size); have hsz := hE.size); refine Goes.mk ?_; first | (exact goes_appX _ _ rfl rfl hj (fun k e => by simp [Value.ownBlock] at e; exact e.symm) rfl yo (by omega) (by omega) (fun _ => trivial)) | (go_simp; first | exact goes_v | exact goes_pk (by assumption) (by assumption) | (refine goes_enter ?_; first | (go_at_call 37; ((with_reducible refine (hw1' wo Ap np cp xo obp).mono ?_); rintro e w12 ⟨⟨D1, g1, h1', D2, g2, h2', rfl, O13, O14, hB12⟩⟩); exact ret_tup (O13.mono hsz) (O14.mono hsz) hB12))))) | (apply ObsX.ev (by rfl) (by rfl); (intro wo hE hj; (repeat (first | (intro v hv; ((first | (obtain ⟨Ap, np, cp, rfl, op⟩ := hv; have obp := op.bs) | (obtain ⟨D1, g1, h1', D2, g2, h2', rfl, o13, o14⟩ := hv)))) | (intro _ _ k; try have hcv := cv k))); (have pco := (Pc.ext hE (by omega)).cell; have mco := (Fc.ext hE (by omega)).cell; have xo := x1.below (below_ext Tc hE (by omega) Tc.size); have yo := y1.below (below_ext Tc hE (by omega) Tc.size); have hsz := hE.size); refine GoesX.mk ?_; first | (exact goes_appX _ _ rfl rfl hj (fun k e => by simp [Value.ownBlock] at e; exact e.symm) rfl yo (by omega) (by omega) (fun _ => trivial)) | (go_simp; first | exact goes_v | exact goes_pk (by assumption) (by assumption) | (refine goes_enter ?_; first | (go_at_call 37; ((with_reducible refine (hw1' wo Ap np cp xo obp).mono ?_); rintro e w12 ⟨⟨D1, g1, h1', D2, g2, h2', rfl, O13, O14, hB12⟩⟩); exact ret_tup (O13.mono hsz) (O14.mono hsz) hB12))))) | (apply ObsX.ep (q := isTup w18.heap.size Q E) (by rfl) (by rfl) (by rfl) st_isTup; (intro wo hE hj; (repeat (first | (intro v hv; ((first | (obtain ⟨Ap, np, cp, rfl, op⟩ := hv; have obp := op.bs) | (obtain ⟨D1, g1, h1', D2, g2, h2', rfl, o13, o14⟩ := hv)))) | (intro _ _ k; try have hcv := cv k))); (have pco := (Pc.ext hE (by omega)).cell; have mco := (Fc.ext hE (by omega)).cell; have xo := x1.below (below_ext Tc hE (by omega) Tc.size); have yo := y1.below (below_ext Tc hE (by omega) Tc.size); have hsz := hE.size); refine GoesX.mk ?_; first | (exact goes_appX _ _ rfl rfl hj (fun k e => by simp [Value.ownBlock] at e; exact e.symm) rfl yo (by omega) (by omega) (fun _ => trivial)) | (go_simp; first | exact goes_v | exact goes_pk (by assumption) (by assumption) | (refine goes_enter ?_; first | (go_at_call 37; ((with_reducible refine (hw1' wo Ap np cp xo obp).mono ?_); rintro e w12 ⟨⟨D1, g1, h1', D2, g2, h2', rfl, O13, O14, hB12⟩⟩); exact ret_tup (O13.mono hsz) (O14.mono hsz) hB12))))) | (apply ObsX.ep (q := isPk w18.heap.size Q) (by rfl) (by rfl) (by rfl) st_isPk; (intro wo hE hj; (repeat (first | (intro v hv; ((first | (obtain ⟨Ap, np, cp, rfl, op⟩ := hv; have obp := op.bs) | (obtain ⟨D1, g1, h1', D2, g2, h2', rfl, o13, o14⟩ := hv)))) | (intro _ _ k; try have hcv := cv k))); (have pco := (Pc.ext hE (by omega)).cell; have mco := (Fc.ext hE (by omega)).cell; have xo := x1.below (below_ext Tc hE (by omega) Tc.size); have yo := y1.below (below_ext Tc hE (by omega) Tc.size); have hsz := hE.size); refine GoesX.mk ?_; first | (exact goes_appX _ _ rfl rfl hj (fun k e => by simp [Value.ownBlock] at e; exact e.symm) rfl yo (by omega) (by omega) (fun _ => trivial)) | (go_simp; first | exact goes_v | exact goes_pk (by assumption) (by assumption) | (refine goes_enter ?_; first | (go_at_call 37; ((with_reducible refine (hw1' wo Ap np cp xo obp).mono ?_); rintro e w12 ⟨⟨D1, g1, h1', D2, g2, h2', rfl, O13, O14, hB12⟩⟩); exact ret_tup (O13.mono hsz) (O14.mono hsz) hB12))))) | (apply ObsX.ep (q := isW w5.heap.size _) (by rfl) (by rfl) (by rfl) st_isW; (intro wo hE hj; (repeat (first | (intro v hv; ((first | (obtain ⟨Ap, np, cp, rfl, op⟩ := hv; have obp := op.bs) | (obtain ⟨D1, g1, h1', D2, g2, h2', rfl, o13, o14⟩ := hv)))) | (intro _ _ k; try have hcv := cv k))); (have pco := (Pc.ext hE (by omega)).cell; have mco := (Fc.ext hE (by omega)).cell; have xo := x1.below (below_ext Tc hE (by omega) Tc.size); have yo := y1.below (below_ext Tc hE (by omega) Tc.size); have hsz := hE.size); refine GoesX.mk ?_; first | (exact goes_appX _ _ rfl rfl hj (fun k e => by simp [Value.ownBlock] at e; exact e.symm) rfl yo (by omega) (by omega) (fun _ => trivial)) | (go_simp; first | exact goes_v | exact goes_pk (by assumption) (by assumption) | (refine goes_enter ?_; first | (go_at_call 37; ((with_reducible refine (hw1' wo Ap np cp xo obp).mono ?_); rintro e w12 ⟨⟨D1, g1, h1', D2, g2, h2', rfl, O13, O14, hB12⟩⟩); exact ret_tup (O13.mono hsz) (O14.mono hsz) hB12))))))); refine ObsX.nil ?_; intro wz hEz hJz; simp only [finOn, List.drop_succ_cons, List.drop_zero, List.drop_nil]
  rintro v12 ⟨D1, g1, h1', D2, g2, h2', rfl, O13, O14⟩ v13 hv13 v14 hv14
  clear hv13 hv14
  go_simp
  have Zz := Zc.ext hEz (by omega)
  have zcz := Zz.cell
  have Tz := below_ext Tc hEz (by omega) Tc.size
  have r1s := R1.size
  go_wp2_with fail
  obtain ⟨wf, hwf, Sf⟩ := store9 Zz (.int .u8 Q.tos) (.int .u16 Q.id) (.bool Q.keep) (.int .u8 Q.ttl) (.int .u8 Q.proto) (.int .u32 Q.src) (.int .u32 Q.dst) (.slice D1 g1 h1') (.slice D2 g2 h2')
  rw [hwf]
  have pf := Sf.blk.cell
  have Of := Sf.own O13 (fun a e => by have := O13.ge a e; omega)
  have Df := Sf.own O14 (fun a e => by have := O14.ge a e; omega)
  have tcs := Tc.size
  refine bodyPost_ret (v := .tuple #[(.agg #[.int .u8 (Q).tos, .int .u16 (Q).id, .bool (Q).keep, .int .u8 (Q).ttl, .int .u8 (Q).proto, .int .u32 (Q).src, .int .u32 (Q).dst, .slice D1 g1 h1', .slice D2 g2 h2']), .int .i64 E]) (by simp [results, Tryz.results43, go_sem, pf]) rfl ⟨⟨D1, g1, h1', D2, g2, h2', rfl, Of.mono (by omega), Df.mono (by omega), Sf.bel (below_then R1 Tz) (by omega)⟩⟩
theorem rbg_good (p : Pkt) (A1 : Option Addr) (n1 c1 : Nat) (A2 : Option Addr) (n2 c2 : Nat) (f : Frm) (hf : f.Ok) (B1 : Option Addr) (m1 d1 : Nat) (w : World) (k1 : Bs w A1 n1 c1 p.opt) (j1 : Bs w B1 m1 d1 f.dat) (h0 : bgE p f = 0) :
    Calls Tryz.prog 43 #[(.agg #[.int .u8 (p).tos, .int .u16 (p).id, .bool (p).keep, .int .u8 (p).ttl, .int .u8 (p).proto, .int .u32 (p).src, .int .u32 (p).dst, .slice A1 n1 c1, .slice A2 n2 c2]), (.agg #[.int .u16 (f).call, .bool (f).hs, .bool (f).ha, .int .u32 (f).seq, .int .u32 (f).ack, .slice B1 m1 d1])] w (WiPost w (bgP p f) (bgE p f)) := by
  cases hb : gBad f with
  | true =>
    unfold bgE at h0
    rw [hb, if_pos rfl] at h0
    exact absurd h0 (by decide)
  | false =>
    have l1 := k1.len
    have jl := j1.len
    have hE : bgE p f = wiE p (gN f) := by unfold bgE; rw [hb, if_neg (by decide)]
    have hP : bgP p f = withP p 47 (gL f) := by unfold bgP; rw [hb, if_neg (by decide)]
    have hN := gL_len f
    have hw : ∀ W A n c, Bs W A1 n1 c1 p.opt → Bs W A n c (gL f) → Calls Tryz.prog 37 #[(.agg #[.int .u8 (p).tos, .int .u16 (p).id, .bool (p).keep, .int .u8 (p).ttl, .int .u8 (p).proto, .int .u32 (p).src, .int .u32 (p).dst, .slice A1 n1 c1, .slice A2 n2 c2]), .int .u8 47, .slice A n c] W (WiPost W (bgP p f) (bgE p f)) := fun W A n c kk ks => by
      have hh := rwith_any p A1 n1 c1 A2 n2 c2 47 A n c (gL f) W kk ks
      rw [hE, hP, ← hN]
      exact hh
    have hz : wiE p (gN f) = 0 := by rw [← hE]; exact h0
    have hz' : p.opt.length ≤ 40 ∧ p.opt.length % 4 = 0 ∧ 20 + p.opt.length + gN f ≤ 65535 := by
      unfold wiE at hz
      split at hz
      · cases hz
      · split at hz
        · cases hz
        · omega
    have h1 : (n1 : Int) ≤ 40 := by omega
    have h2 : n1 % 4 = 0 := by omega
    have hNe : gN f = 8 + (if f.hs then 4 else 0) + (if f.ha then 4 else 0) + m1 := by unfold gN; rw [jl]
    have h3' := hz'.2.2
    rw [hNe, l1] at h3'
    clear hE hP hN hz hz' h0 hNe
    revert hw
    generalize bgP p f = Q
    generalize bgE p f = E
    intro hw
    obtain ⟨call, hs, ha, seq, ack, dat⟩ := f
    simp only at jl
    subst jl
    obtain ⟨c0, s0, a0⟩ := hf
    cases hs <;> cases ha
    · have h5 : (seq != 0) = false ∧ (ack != 0) = false := by
        revert hb; unfold gBad; cases (seq != 0) <;> cases (ack != 0) <;> simp
      have h3 : 20 + (n1 : Int) + 8 + dat.length ≤ 65535 := by simp at h3'; omega
      exact rbg_ok00 p A1 n1 c1 A2 n2 c2 call seq ack h5.1 h5.2 dat B1 _ d1 w k1 j1 c0 s0 a0 h1 h2 Q E h3 (fun W A n c kk ks => hw W A n c kk (by simpa [gL, gH] using ks))
    · have h5 : (seq != 0) = false := by
        revert hb; unfold gBad; cases (seq != 0) <;> simp
      have h3 : 20 + (n1 : Int) + 12 + dat.length ≤ 65535 := by simp at h3'; omega
      exact rbg_ok01 p A1 n1 c1 A2 n2 c2 call seq ack h5 dat B1 _ d1 w k1 j1 c0 s0 a0 h1 h2 Q E h3 (fun W A n c kk ks => hw W A n c kk (by simpa [gL, gH] using ks))
    · have h5 : (ack != 0) = false := by
        revert hb; unfold gBad; cases (ack != 0) <;> simp
      have h3 : 20 + (n1 : Int) + 12 + dat.length ≤ 65535 := by simp at h3'; omega
      exact rbg_ok10 p A1 n1 c1 A2 n2 c2 call seq ack h5 dat B1 _ d1 w k1 j1 c0 s0 a0 h1 h2 Q E h3 (fun W A n c kk ks => hw W A n c kk (by simpa [gL, gH] using ks))
    · have h3 : 20 + (n1 : Int) + 16 + dat.length ≤ 65535 := by simp at h3'; omega
      exact rbg_ok11 p A1 n1 c1 A2 n2 c2 call seq ack dat B1 _ d1 w k1 j1 c0 s0 a0 h1 h2 Q E h3 (fun W A n c kk ks => hw W A n c kk (by simpa [gL, gH] using ks))
end Go.Proofs.YtjhpmeagopdaiaaGreat

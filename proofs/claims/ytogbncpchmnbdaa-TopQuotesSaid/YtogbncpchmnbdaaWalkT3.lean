/- TopQuotes. -/
import Derived.Test.YtogbncpchmnbdaaIpV
import Derived.Test.YtogbncpchmnbdaaMathC
import Derived.Test.YtogbncpchmnbdaaMsg2
import Derived.Test.YtogbncpchmnbdaaMsgK
import Derived.Test.YtogbncpchmnbdaaIpS2
namespace Go.Proofs.Ytogbncpchmnbdaa
open Go.RowKit
set_option linter.unusedVariables false
set_option linter.unusedSimpArgs false
set_option linter.unusedSimpArgs false
set_option maxHeartbeats 4000000
set_option maxRecDepth 100000

theorem quote_cut {p : Pkt} (hp : p.Ok) (h : bdE p = 0) {k : Nat} (hk : 8 ≤ k) (hk2 : k ≤ p.dat.length) :
    rdE true ((bdL p).take (20 + p.opt.length + k)) = 0 ∧ rdPk true ((bdL p).take (20 + p.opt.length + k)) = { p with dat := p.dat.take k } := by
  obtain ⟨n1, n2, n3⟩ := bdE_zero h
  have e0 : (bdL p).take (20 + p.opt.length + k) = hx p (csum (hdL p)) ++ (p.opt ++ p.dat.take k) := by
    rw [bdL_form h, List.take_append, List.take_append, hx_len, List.take_of_length_le (by rw [hx_len]; omega), show 20 + p.opt.length + k - 20 = p.opt.length + k from by omega, List.take_of_length_le (by omega), show p.opt.length + k - p.opt.length = k from by omega]
  have hs := good_hd p
  obtain ⟨c, hc⟩ : ∃ c, csum (hdL p) = c := ⟨_, rfl⟩
  have c0 := csum_lo (hdL p)
  have c1 := csum_hi (hdL p)
  rw [hc] at e0 hs c0 c1
  rw [e0]
  obtain ⟨f0, f1, f2, f3, f4, f5, f6, f7, f8, f9⟩ := hx_at hp c0 c1 (p.opt ++ p.dat.take k) n1 n3
  have hl : (hx p c ++ (p.opt ++ p.dat.take k)).length = 20 + p.opt.length + k := by simp [hx_len, Nat.min_eq_left hk2]; omega
  have t1 : (hx p c ++ (p.opt ++ p.dat.take k)).take (20 + p.opt.length) = hx p c ++ p.opt := by
    rw [← List.append_assoc]; exact List.take_left' (by rw [List.length_append, hx_len])
  have k6 : ¬ (get16 (hx p c ++ (p.opt ++ p.dat.take k)) 6 % 16384 ≠ 0) ∧ ¬ (32768 ≤ get16 (hx p c ++ (p.opt ++ p.dat.take k)) 6) ∧ (get16 (hx p c ++ (p.opt ++ p.dat.take k)) 6 != 0) = p.keep := by
    rw [f4]; cases p.keep <;> decide
  obtain ⟨l, hle⟩ : ∃ l, hx p c ++ (p.opt ++ p.dat.take k) = l := ⟨_, rfl⟩
  have d2 : (l.take (20 + p.opt.length + k)).drop (20 + p.opt.length) = p.dat.take k := by
    rw [← hle, List.take_of_length_le (by rw [hl]; exact Nat.le_refl _), ← List.append_assoc]
    exact List.drop_left' (by rw [List.length_append, hx_len])
  rw [hle] at f0 f1 f2 f3 f4 f5 f6 f7 f8 f9 hl t1 k6 ⊢
  have e1 : hdOf l = 20 + p.opt.length := by unfold hdOf; omega
  have e2 : alOf l = 20 + p.opt.length + k := by unfold alOf; rw [f2, hl]; split <;> omega
  have e3 : lenE true l = 0 := by
    unfold lenE
    rw [e1, f2, hl, if_neg (by omega), if_neg (by omega), if_neg (by omega), if_neg (by omega), if_neg (by omega), if_neg (by rintro ⟨h, _⟩; cases h)]
  have e4 : rdE true l = 0 := by
    unfold rdE
    rw [e3, e1, e2, show ((20 + (p.opt.length : Int)).toNat) = 20 + p.opt.length from by omega, t1, hs, if_neg (by simp), if_neg (by simp), if_neg k6.1, if_neg k6.2.1, if_neg (by omega)]
  refine ⟨e4, ?_⟩
  unfold rdPk
  rw [if_pos e4]
  have d1 : (20 + (p.opt.length : Int)).toNat = 20 + p.opt.length := by omega
  have d3 : (20 + (p.opt.length : Int) + (k : Int)).toNat = 20 + p.opt.length + k := by omega
  unfold rdP
  rw [e1, e2, d1, d3, t1, d2, f1, f3, k6.2.2, f5, f6, f8, f9, List.drop_left' (hx_len p c)]
theorem zP_ok' : zP.Ok := ⟨by decide, by decide, by decide, by decide, by decide, by decide⟩
theorem topQuotes_walk (w : World) (p : Pkt) (hp : p.Ok) (A1 : Option Addr) (n1 c1 : Nat) (A2 : Option Addr) (n2 c2 : Nat) (k1 : Bs w A1 n1 c1 p.opt) (k2 : Bs w A2 n2 c2 p.dat) (a : Int) (a0 : 0 ≤ a) (a1 : a ≤ 65535) :
    Calls Try.prog 13 #[(.agg #[.int .u8 (p).tos, .int .u16 (p).id, .bool (p).keep, .int .u8 (p).ttl, .int .u8 (p).proto, .int .u32 (p).src, .int .u32 (p).dst, .slice A1 n1 c1, .slice A2 n2 c2]), .int .u16 a] w fun e w' => e = .returned (.bool true) ∧ Below w.heap.size w w' := by
  have cb := fun W k1 k2 => bd_any p hp A1 n1 c1 A2 n2 c2 W k1 k2
  have cz : ∀ W, Calls Try.prog 35 #[.agg #[.int .u8 0, .int .u16 0, .bool false, .int .u8 0, .int .u8 0, .int .u32 0, .int .u32 0, .slice none 0 0, .slice none 0 0]] W fun e w' => ∃ A c, e = .returned (.tuple #[.slice A 20 c, .int .i64 0]) ∧ Below W.heap.size W w' := fun W => by
    refine (bd_any zP zP_ok' none 0 0 none 0 0 W (Bs.none_ _) (Bs.none_ _)).mono ?_
    rintro e w' ⟨A, n, c, rfl, h1, h2⟩
    have e1 : bdE zP = 0 := by decide
    have e2 := h1.len
    rw [bdL_len e1] at e2
    have e3 : n = 20 := by simpa [zP] using e2.symm
    subst e3
    rw [e1]
    exact ⟨A, c, rfl, h2⟩
  have l1 := k1.len
  have l2 := k2.len
  obtain ⟨E, hE⟩ : ∃ E, bdE p = E := ⟨_, rfl⟩
  obtain ⟨L, hL⟩ : ∃ L, bdL p = L := ⟨_, rfl⟩
  obtain ⟨N, hN⟩ : ∃ N, L.length = N := ⟨_, rfl⟩
  rw [hE, hL] at cb
  have HN := Lib.hid hN
  by_cases hgood : E = 0 ∧ 8 ≤ n2 ∧ N ≤ 60000
  · obtain ⟨rfl, h8, h6⟩ := hgood
    have hLen : N = 20 + n1 + n2 := by rw [← hN, ← hL, bdL_len hE, l1, l2]
    obtain ⟨q7, hq7⟩ : ∃ q7 : Int, (n2 : Int) - 7 = q7 := ⟨_, rfl⟩
    obtain ⟨r, hr⟩ : ∃ r : Int, a.tmod q7 = r := ⟨_, rfl⟩
    have hr2 : 0 ≤ r ∧ r < q7 := by
      rw [← hr, Int.tmod_eq_emod_of_nonneg a0]
      exact ⟨Int.emod_nonneg _ (by omega), Int.emod_lt_of_pos _ (by omega)⟩
    obtain ⟨K, hK⟩ : ∃ K : Nat, (N : Int) - r = (K : Int) := ⟨((N : Int) - r).toNat, by omega⟩
    obtain ⟨kk, hkk⟩ : ∃ kk : Nat, K = 20 + n1 + kk := ⟨K - (20 + n1), by omega⟩
    have hk8 : 8 ≤ kk ∧ kk ≤ n2 := by omega
    have HQ := quote_cut hp hE (k := kk) hk8.1 (by omega)
    rw [hL, l1, ← hkk] at HQ
    obtain ⟨M, hM⟩ : ∃ M, L.take K = M := ⟨_, rfl⟩
    rw [hM] at HQ
    have hMl : M.length = K := by rw [← hM, List.length_take, hN]; omega
    have hMok : (⟨3, 0, 0, M⟩ : Msg).Ok := ⟨by show (0 : Int) ≤ 3 ∧ (3 : Int) ≤ 255; decide, by show (0 : Int) ≤ 0 ∧ (0 : Int) ≤ 255; decide, by show (0 : Int) ≤ 0 ∧ (0 : Int) ≤ 4294967295; decide⟩
    have cm : ∀ W A c, Bs W A K c M → Calls Try.prog 14 #[.agg #[.int .u8 0, .int .u16 0, .bool false, .int .u8 0, .int .u8 0, .int .u32 0, .int .u32 0, .slice none 0 0, .slice none 0 0], .agg #[.int .u8 3, .int .u8 0, .int .u32 0, .slice A K c]] W fun e w' => ∃ B1 m1 d1 B2 m2 d2, e = .returned (.tuple #[.agg #[.int .u8 0, .int .u16 0, .bool false, .int .u8 0, .int .u8 1, .int .u32 0, .int .u32 0, .slice B1 m1 d1, .slice B2 m2 d2], .int .i64 0]) ∧ Bs w' B2 m2 d2 (mS ⟨3, 0, 0, M⟩) ∧ Below W.heap.size W w' := fun W A c k => by
      refine (bicmp_any zP none 0 0 none 0 0 ⟨3, 0, 0, M⟩ hMok A K c W (Bs.none_ _) k (by omega)).mono ?_
      intro e w' hq
      obtain ⟨B1, m1, d1, B2, m2, d2, rfl, -, h2, h3⟩ := hq.out
      have e2 : wiE zP (8 + (⟨3, 0, 0, M⟩ : Msg).dat.length) = 0 := by
        show wiE zP (8 + M.length) = 0
        rw [hMl]; unfold wiE; simp [zP]; omega
      have e1 : withP zP 1 (mS ⟨3, 0, 0, M⟩) = ⟨0, 0, false, 0, 1, 0, 0, [], mS ⟨3, 0, 0, M⟩⟩ := by
        unfold withP; rw [mS_len, e2, if_pos rfl]; rfl
      rw [e1] at h2 ⊢
      rw [e2]
      exact ⟨B1, m1, d1, B2, m2, d2, rfl, h2.bs, h3⟩
    have cp : ∀ W B1 m1 d1 B2 m2 d2, Bs W B2 m2 d2 (mS ⟨3, 0, 0, M⟩) → Calls Try.prog 30 #[.agg #[.int .u8 0, .int .u16 0, .bool false, .int .u8 0, .int .u8 1, .int .u32 0, .int .u32 0, .slice B1 m1 d1, .slice B2 m2 d2]] W fun e w' => ∃ A n c, e = .returned (.tuple #[.agg #[.int .u8 3, .int .u8 0, .int .u32 0, .slice A n c], .int .i64 0]) ∧ Bs w' A n c M ∧ Below W.heap.size W w' := fun W B1 m1 d1 B2 m2 d2 k => by
      have hb := ic_back ⟨0, 0, false, 0, 1, 0, 0, [], mS ⟨3, 0, 0, M⟩⟩ ⟨3, 0, 0, M⟩ hMok
      refine (icmp_any ⟨0, 0, false, 0, 1, 0, 0, [], mS ⟨3, 0, 0, M⟩⟩ B1 m1 d1 B2 m2 d2 W k).mono ?_
      intro e w' hq
      obtain ⟨A, n, c, rfl, h2, h3⟩ := hq.out
      simp only at hb
      rw [hb.2] at h2 ⊢
      rw [hb.1]
      exact ⟨A, n, c, rfl, h2.bs, h3⟩
    have cq := fun W A n c k => ipQuote_v HQ.2 HQ.1 A n c W k
    have ci : ∀ W A n c, Calls Try.prog 24 #[.agg #[.int .u8 3, .int .u8 0, .int .u32 0, .slice A n c]] W fun e w' => e = .returned (.bool true) ∧ Below W.heap.size W w' := fun W A n c => iserr_any ⟨3, 0, 0, []⟩ A n c W
    have hN8 : ¬ (n2 : Int) < 8 := by omega
    have hN6 : ¬ (60000 : Int) < N := by omega
    have h8i : (8 : Int) ≤ kk := by omega
    have hcK : K ≤ N := by omega
    have HMl := Lib.hid hMl
    have HM := Lib.hid hM
    have q71 : 1 ≤ q7 := by omega
    have q7x : q7 ≤ 65535 := by omega
    obtain ⟨i8, hi8, -, hs8, -⟩ := info_parts info_u8
    obtain ⟨b2, o2, rfl⟩ := k2.some_ (by omega)
    have hcap2 := k2.cap
    have hcut2 : ∀ W, (Instr.slice 24 (.slice (some ⟨b2, o2, none⟩) n2 c2) none (some (.int .i64 (kk : Int))) none).run Try.prog W = .ok (.slice (some ⟨b2, o2, none⟩) kk c2) W := fun W => by
      rw [cut_h Try.underlying24 hi8 hs8 (some ⟨b2, o2, none⟩) n2 c2 .i64 (kk : Int) (by omega) (by omega) W]; simp [Addr.add]
    have kk2 := hk8.2
    have HN9 : Hid (N ≤ 65535 ∧ 0 < K) := by unfold Hid; omega
    have hkkl : Hid ((p.dat.take kk).length = kk) := by unfold Hid; rw [List.length_take, l2]; omega
    have hn65 : n2 ≤ 65535 := by omega
    have hK0 : 0 ≤ (K : Int) := by omega
    clear hE hL hN HQ hM hMl hLen hkk hk8 l1 l2 h8 h6
    obtain ⟨k, hk⟩ : ∃ k : Nat, w.heap.size = k := ⟨_, rfl⟩
    obtain ⟨w1, hw1⟩ : ∃ W, (w.alloc (.cells #[.int .u8 (p).tos, .int .u16 (p).id, .bool (p).keep, .int .u8 (p).ttl, .int .u8 (p).proto, .int .u32 (p).src, .int .u32 (p).dst, .slice A1 n1 c1, .slice (some ⟨b2, o2, none⟩) n2 c2] 26)) = W := ⟨_, rfl⟩
    have P1 : Blk w1 k #[.int .u8 (p).tos, .int .u16 (p).id, .bool (p).keep, .int .u8 (p).ttl, .int .u8 (p).proto, .int .u32 (p).src, .int .u32 (p).dst, .slice A1 n1 c1, .slice (some ⟨b2, o2, none⟩) n2 c2] 26 := by rw [← hw1]; exact (blk_new _ _ _ k (by simp [hk]))
    have R1 : Below w.heap.size w w1 := by rw [← hw1]; (repeat (first | with_reducible exact Below.refl _ _ | with_reducible refine below_drew ?_ | with_reducible refine below_drewN ?_ _ | with_reducible refine below_alloc ?_ (Nat.le_refl _) _ | with_reducible refine Below.setCell ?_ (by first | exact Nat.le_refl _ | (simp only []; omega)) _ | with_reducible assumption))
    have Pc1 := P1.cell
    have Pl1 := P1.lt
    have x1 := (k1).below R1
    have y1 := (k2).below R1
    clear k1 k2
    go_enter Try.func13, Try.ntmps13
    go_wp2_with (first
      | (go_at_call 35; ((with_reducible refine (cb w1 x1 y1).mono ?_); rintro e w2 ⟨A3, n3, c3, rfl, ho3, hB2⟩); have u3 : n3 = N := (by rw [← ho3.len]; exact HN.out); subst u3; have z2 := ho3.bs; have P2 := P1.below hB2; have Pc2 := P2.cell; clear Pc1; have x2 := x1.below hB2; have y2 := y1.below hB2; have R2 := below_then R1 hB2; (obtain ⟨b3, o3, rfl⟩ := z2.some_ (by have := HN9.out; omega)); have hcap3 := z2.cap; have hcut3 : ∀ W, (Instr.slice 24 (.slice (some ⟨b3, o3, none⟩) n3 c3) none (some (.int .i64 (K : Int))) none).run Try.prog W = .ok (.slice (some ⟨b3, o3, none⟩) K c3) W := (fun W => by rw [cut_h Try.underlying24 hi8 hs8 (some ⟨b3, o3, none⟩) n3 c3 .i64 (K : Int) (by omega) (by omega) W]; simp [Addr.add]); have t2 := z2.takeN hcK; rw [HM.out] at t2)
      | (go_at_call 14; ((with_reducible refine (cm w2 _ c3 t2).mono ?_); rintro e u3 ⟨B1, m1, d1, B2, m2, d2, rfl, k4, hB3⟩); (obtain ⟨w3, hw3⟩ : ∃ W, u3.alloc (.cells #[.int .u8 0, .int .u16 0, .bool false, .int .u8 0, .int .u8 1, .int .u32 0, .int .u32 0, .slice B1 m1 d1, .slice B2 m2 d2] 26) = W := ⟨_, rfl⟩); have V3 : Below u3.heap.size u3 w3 := (by rw [← hw3]; (repeat (first | with_reducible exact Below.refl _ _ | with_reducible refine below_drew ?_ | with_reducible refine below_drewN ?_ _ | with_reducible refine below_alloc ?_ (Nat.le_refl _) _ | with_reducible refine Below.setCell ?_ (by first | exact Nat.le_refl _ | (simp only []; omega)) _ | with_reducible assumption))); (obtain ⟨kQ3, hkQ3⟩ : ∃ k : Nat, u3.heap.size = k := ⟨_, rfl⟩); have Q3 : Blk w3 kQ3 #[.int .u8 0, .int .u16 0, .bool false, .int .u8 0, .int .u8 1, .int .u32 0, .int .u32 0, .slice B1 m1 d1, .slice B2 m2 d2] 26 := (by rw [← hw3]; exact blk_new u3 _ _ _ hkQ3); have Qc3 := Q3.cell; have T3 := below_then hB3 V3; have u3 := (k4).below V3; have P3 := P2.below T3; have Pc3 := P3.cell; clear Pc2; have x3 := x2.below T3; have y3 := y2.below T3; have z3 := z2.below T3; have R3 := below_then R2 T3)
      | (go_at_call 30; ((with_reducible refine (cp w3 B1 m1 d1 B2 m2 d2 u3).mono ?_); rintro e u4 ⟨A5, n5, c5, rfl, k5, hB4⟩); (obtain ⟨w4, hw4⟩ : ∃ W, u4.alloc (.cells #[.int .u8 3, .int .u8 0, .int .u32 0, .slice A5 n5 c5] 28) = W := ⟨_, rfl⟩); have V4 : Below u4.heap.size u4 w4 := (by rw [← hw4]; (repeat (first | with_reducible exact Below.refl _ _ | with_reducible refine below_drew ?_ | with_reducible refine below_drewN ?_ _ | with_reducible refine below_alloc ?_ (Nat.le_refl _) _ | with_reducible refine Below.setCell ?_ (by first | exact Nat.le_refl _ | (simp only []; omega)) _ | with_reducible assumption))); (obtain ⟨kM4, hkM4⟩ : ∃ k : Nat, u4.heap.size = k := ⟨_, rfl⟩); have M4 : Blk w4 kM4 #[.int .u8 3, .int .u8 0, .int .u32 0, .slice A5 n5 c5] 28 := (by rw [← hw4]; exact blk_new u4 _ _ _ hkM4); have Mc4 := M4.cell; have T4 := below_then hB4 V4; have v4 := (k5).below V4; have P4 := P3.below T4; have Pc4 := P4.cell; clear Pc3; have Q4 := Q3.below T4; have Qc4 := Q4.cell; clear Qc3; have x4 := x3.below T4; have y4 := y3.below T4; have z4 := z3.below T4; have u4 := u3.below T4; have R4 := below_then R3 T4)
      | (go_at_call 36; ((with_reducible refine (cq w4 A5 n5 c5 v4).mono ?_); rintro e u5 ⟨A6, n6, c6, A7, n7, c7, rfl, -, k7, hB5⟩); (obtain ⟨w5, hw5⟩ : ∃ W, u5.alloc (.cells #[.int .u8 ({ p with dat := p.dat.take kk }).tos, .int .u16 ({ p with dat := p.dat.take kk }).id, .bool ({ p with dat := p.dat.take kk }).keep, .int .u8 ({ p with dat := p.dat.take kk }).ttl, .int .u8 ({ p with dat := p.dat.take kk }).proto, .int .u32 ({ p with dat := p.dat.take kk }).src, .int .u32 ({ p with dat := p.dat.take kk }).dst, .slice A6 n6 c6, .slice A7 n7 c7] 26) = W := ⟨_, rfl⟩); have V5 : Below u5.heap.size u5 w5 := (by rw [← hw5]; (repeat (first | with_reducible exact Below.refl _ _ | with_reducible refine below_drew ?_ | with_reducible refine below_drewN ?_ _ | with_reducible refine below_alloc ?_ (Nat.le_refl _) _ | with_reducible refine Below.setCell ?_ (by first | exact Nat.le_refl _ | (simp only []; omega)) _ | with_reducible assumption))); (obtain ⟨kG5, hkG5⟩ : ∃ k : Nat, u5.heap.size = k := ⟨_, rfl⟩); have G5 : Blk w5 kG5 #[.int .u8 ({ p with dat := p.dat.take kk }).tos, .int .u16 ({ p with dat := p.dat.take kk }).id, .bool ({ p with dat := p.dat.take kk }).keep, .int .u8 ({ p with dat := p.dat.take kk }).ttl, .int .u8 ({ p with dat := p.dat.take kk }).proto, .int .u32 ({ p with dat := p.dat.take kk }).src, .int .u32 ({ p with dat := p.dat.take kk }).dst, .slice A6 n6 c6, .slice A7 n7 c7] 26 := (by rw [← hw5]; exact blk_new u5 _ _ _ hkG5); have Gc5 := G5.cell; have T5 := below_then hB5 V5; have s5 := (k7).below V5; have P5 := P4.below T5; have Pc5 := P5.cell; clear Pc4; have Q5 := Q4.below T5; have Qc5 := Q5.cell; clear Qc4; have M5 := M4.below T5; have Mc5 := M5.cell; clear Mc4; have x5 := x4.below T5; have y5 := y4.below T5; have z5 := z4.below T5; have u5 := u4.below T5; have v5 := v4.below T5; have R5 := below_then R4 T5; have u7 : n7 = kk := (by rw [← s5.len]; exact hkkl.out); subst u7)
      | (go_at_call 24; ((with_reducible refine (ci w5 A5 n5 c5).mono ?_); rintro e w6 ⟨rfl, hB6⟩); have P6 := P5.below hB6; have Pc6 := P6.cell; clear Pc5; have Q6 := Q5.below hB6; have Qc6 := Q6.cell; clear Qc5; have M6 := M5.below hB6; have Mc6 := M6.cell; clear Mc5; have G6 := G5.below hB6; have Gc6 := G6.cell; clear Gc5; have x6 := x5.below hB6; have y6 := y5.below hB6; have z6 := z5.below hB6; have u6 := u5.below hB6; have v6 := v5.below hB6; have s6 := s5.below hB6; have R6 := below_then R5 hB6))
    have yk6 := y6.takeN kk2
    refine region_txt 38 (by kernel_rfl) (by kernel_rfl) ?_; (iterate 38 (first | (apply ObsK.skip (by rfl)) | (apply ObsK.v (by rfl); (intro wo hT; (repeat (first | (intro _ _ k; try have hcv := cv k))); (have gco := (G6.below hT).cell; have pco := (P6.below hT).cell; have cvs := cv (s6.below hT); have cvy := cv (yk6.below hT)); refine Goes.mk ?_; go_simp; first | exact goes_v | exact goes_b (by assumption) | (refine goes_enter ?_; first | fail))) | (apply ObsK.b (by rfl); (intro wo hT; (repeat (first | (intro _ _ k; try have hcv := cv k))); (have gco := (G6.below hT).cell; have pco := (P6.below hT).cell; have cvs := cv (s6.below hT); have cvy := cv (yk6.below hT)); refine Goes.mk ?_; go_simp; first | exact goes_v | exact goes_b (by assumption) | (refine goes_enter ?_; first | fail))))); refine ObsK.nil ?_; intro wz hBz; simp only [finOn, List.drop_succ_cons, List.drop_zero, List.drop_nil]
    go_simp
    go_wp2_with fail
    go_ret
    exact ⟨rfl, below_then R6 hBz⟩
  · have hbad : E ≠ 0 ∨ (E = 0 ∧ ((n2 : Int) < 8 ∨ (¬ (n2 : Int) < 8 ∧ (60000 : Int) < N))) := by omega
    clear hgood hE hL hN
    obtain ⟨k, hk⟩ : ∃ k : Nat, w.heap.size = k := ⟨_, rfl⟩
    obtain ⟨w1, hw1⟩ : ∃ W, (w.alloc (.cells #[.int .u8 (p).tos, .int .u16 (p).id, .bool (p).keep, .int .u8 (p).ttl, .int .u8 (p).proto, .int .u32 (p).src, .int .u32 (p).dst, .slice A1 n1 c1, .slice A2 n2 c2] 26)) = W := ⟨_, rfl⟩
    have P1 : Blk w1 k #[.int .u8 (p).tos, .int .u16 (p).id, .bool (p).keep, .int .u8 (p).ttl, .int .u8 (p).proto, .int .u32 (p).src, .int .u32 (p).dst, .slice A1 n1 c1, .slice A2 n2 c2] 26 := by rw [← hw1]; exact (blk_new _ _ _ k (by simp [hk]))
    have R1 : Below w.heap.size w w1 := by rw [← hw1]; (repeat (first | with_reducible exact Below.refl _ _ | with_reducible refine below_drew ?_ | with_reducible refine below_drewN ?_ _ | with_reducible refine below_alloc ?_ (Nat.le_refl _) _ | with_reducible refine Below.setCell ?_ (by first | exact Nat.le_refl _ | (simp only []; omega)) _ | with_reducible assumption))
    have Pc1 := P1.cell
    have Pl1 := P1.lt
    have x1 := (k1).below R1
    have y1 := (k2).below R1
    clear k1 k2 l1 l2
    rcases hbad with h1 | ⟨rfl, h2 | ⟨h2, h3⟩⟩
    · have h1' : (E != 0) = true := by simpa using h1
      go_enter Try.func13, Try.ntmps13
      go_wp2_with (first
        | (go_at_call 35; ((with_reducible refine (cb w1 x1 y1).mono ?_); rintro e w2 ⟨A3, n3, c3, rfl, ho3, hB2⟩); have u3 : n3 = N := (by rw [← ho3.len]; exact HN.out); subst u3; have P2 := P1.below hB2; have Pc2 := P2.cell; clear Pc1; have x2 := x1.below hB2; have y2 := y1.below hB2; have R2 := below_then R1 hB2)
        | (go_at_call 35; ((with_reducible refine (cz w2).mono ?_); rintro e w3 ⟨A4, c4, rfl, hB3⟩); have P3 := P2.below hB3; have Pc3 := P3.cell; clear Pc2; have x3 := x2.below hB3; have y3 := y2.below hB3; have R3 := below_then R2 hB3))
      go_ret
      exact ⟨rfl, R3⟩

    · go_enter Try.func13, Try.ntmps13
      go_wp2_with (first
        | (go_at_call 35; ((with_reducible refine (cb w1 x1 y1).mono ?_); rintro e w2 ⟨A3, n3, c3, rfl, ho3, hB2⟩); have u3 : n3 = N := (by rw [← ho3.len]; exact HN.out); subst u3; have P2 := P1.below hB2; have Pc2 := P2.cell; clear Pc1; have x2 := x1.below hB2; have y2 := y1.below hB2; have R2 := below_then R1 hB2)
        | (go_at_call 35; ((with_reducible refine (cz w2).mono ?_); rintro e w3 ⟨A4, c4, rfl, hB3⟩); have P3 := P2.below hB3; have Pc3 := P3.cell; clear Pc2; have x3 := x2.below hB3; have y3 := y2.below hB3; have R3 := below_then R2 hB3))
      go_ret
      exact ⟨rfl, R3⟩

    · go_enter Try.func13, Try.ntmps13
      go_wp2_with (first
        | (go_at_call 35; ((with_reducible refine (cb w1 x1 y1).mono ?_); rintro e w2 ⟨A3, n3, c3, rfl, ho3, hB2⟩); have u3 : n3 = N := (by rw [← ho3.len]; exact HN.out); subst u3; have P2 := P1.below hB2; have Pc2 := P2.cell; clear Pc1; have x2 := x1.below hB2; have y2 := y1.below hB2; have R2 := below_then R1 hB2)
        | (go_at_call 35; ((with_reducible refine (cz w2).mono ?_); rintro e w3 ⟨A4, c4, rfl, hB3⟩); have P3 := P2.below hB3; have Pc3 := P3.cell; clear Pc2; have x3 := x2.below hB3; have y3 := y2.below hB3; have R3 := below_then R2 hB3))
      go_ret
      exact ⟨rfl, R3⟩
end Go.Proofs.Ytogbncpchmnbdaa

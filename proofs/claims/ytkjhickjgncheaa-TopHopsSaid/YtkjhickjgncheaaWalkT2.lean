import Derived.Test.YtkjhickjgncheaaIpV
import Derived.Test.YtkjhickjgncheaaIpS2
namespace Go.Proofs.Ytkjhickjgncheaa
open Go.RowKit
set_option linter.unusedVariables false
set_option linter.unusedSimpArgs false
set_option maxHeartbeats 4000000
set_option maxRecDepth 100000

theorem pt_lo (s a b : Int) : 0 ≤ patch s a b := by unfold patch; have := fd_hi ((65535 - s) + (65535 - a) + b); omega
theorem pt_hi (s a b : Int) : patch s a b ≤ 65535 := by unfold patch; have := fd_lo ((65535 - s) + (65535 - a) + b); omega
theorem topHops_walk (w : World) (p : Pkt) (hp : p.Ok) (A1 : Option Addr) (n1 c1 : Nat) (A2 : Option Addr) (n2 c2 : Nat) (k1 : Bs w A1 n1 c1 p.opt) (k2 : Bs w A2 n2 c2 p.dat) :
    Calls Try.prog 13 #[(.agg #[.int .u8 (p).tos, .int .u16 (p).id, .bool (p).keep, .int .u8 (p).ttl, .int .u8 (p).proto, .int .u32 (p).src, .int .u32 (p).dst, .slice A1 n1 c1, .slice A2 n2 c2])] w fun e w' => e = .returned (.bool true) ∧ Below w.heap.size w w' := by
  have cb := fun W k1 k2 => bd_any p hp A1 n1 c1 A2 n2 c2 W k1 k2
  obtain ⟨k, hk⟩ : ∃ k : Nat, w.heap.size = k := ⟨_, rfl⟩
  obtain ⟨w1, hw1⟩ : ∃ w1, w.alloc (.cells #[.int .u8 (p).tos, .int .u16 (p).id, .bool (p).keep, .int .u8 (p).ttl, .int .u8 (p).proto, .int .u32 (p).src, .int .u32 (p).dst, .slice A1 n1 c1, .slice A2 n2 c2] 26) = w1 := ⟨_, rfl⟩
  have P0 : Blk w1 k #[.int .u8 (p).tos, .int .u16 (p).id, .bool (p).keep, .int .u8 (p).ttl, .int .u8 (p).proto, .int .u32 (p).src, .int .u32 (p).dst, .slice A1 n1 c1, .slice A2 n2 c2] 26 := by rw [← hw1]; exact blk_new w _ _ k hk
  have R1 : Below w.heap.size w w1 := by rw [← hw1]; (repeat (first | with_reducible exact Below.refl _ _ | with_reducible refine below_drew ?_ | with_reducible refine below_drewN ?_ _ | with_reducible refine below_alloc ?_ (Nat.le_refl _) _ | with_reducible refine Below.setCell ?_ (by first | exact Nat.le_refl _ | (simp only []; omega)) _ | with_reducible assumption))
  have y1 := k1.below R1
  have y2 := k2.below R1
  have pc := P0.cell
  have c0 : ∀ W, Calls Try.prog 14 #[.agg #[.int .u8 0, .int .u16 0, .bool false, .int .u8 1, .int .u8 0, .int .u32 0, .int .u32 0, .slice none 0 0, .slice none 0 0]] W fun e w' => ∃ A n c, e = .returned (.tuple #[.slice A n c, .int .i64 0]) ∧ Own w' W.heap.size 5 A n c (bdL { zP with ttl := 1 }) ∧ Below W.heap.size W w' :=
    fun W => bd_any { zP with ttl := 1 } ⟨by decide, by decide, by decide, by decide, by decide, by decide⟩ none 0 0 none 0 0 W (Bs.none_ _) (Bs.none_ _)
  have HL : Hid ((bdL { zP with ttl := 1 }).length = 20) := bdL_len (p := { zP with ttl := 1 }) rfl
  by_cases h : bdE p = 0
  · simp only [h] at cb
    by_cases ht : p.ttl = 0
    · have ht' : (p.ttl == 0) = true := by simpa using ht
      clear ht
      go_enter Try.func13, Try.ntmps13
      go_wp2_with (first
        | (go_at_call 14; ((with_reducible refine (cb _ y1 y2).mono ?_); rintro e w3 ⟨A3, n3, c3, rfl, ho3, hB3⟩); have p3 := (P0.below hB3).cell)
        | (go_at_call 14; ((with_reducible refine (c0 _).mono ?_); rintro e w4 ⟨A4, n4, c4, rfl, ho4, hB4⟩); have u4 : n4 = 20 := (by rw [← ho4.len]; exact HL.out); subst u4; have U4 := below_then hB3 hB4))
      go_ret
      exact ⟨rfl, below_then R1 U4⟩
    · have ht' : (p.ttl == 0) = false := by simpa using ht
      obtain ⟨g8, hE, hP⟩ := hops_told hp h ht
      obtain ⟨⟨o1, o1'⟩, ⟨o2, o2'⟩, ⟨o3, o3'⟩, ⟨o4, o4'⟩, ⟨o5, o5'⟩, ⟨o6, o6'⟩⟩ := id hp
      obtain ⟨L, hL⟩ : ∃ L, bdL p = L := ⟨_, rfl⟩
      simp only [hL] at cb g8 hE hP
      obtain ⟨u, hu⟩ : ∃ u, p.ttl * 256 + p.proto = u := ⟨_, rfl⟩
      rw [hu] at g8
      rw [hu] at hE hP
      obtain ⟨v, hv⟩ : ∃ v, u - 256 = v := ⟨_, rfl⟩
      rw [hv] at hE hP
      have u0 : 256 ≤ u := by omega
      have u1 : u ≤ 65535 := by omega
      have v0 : 0 ≤ v := by omega
      have v1 : v ≤ 65535 := by omega
      obtain ⟨s, hs⟩ : ∃ s, get16 L 10 = s := ⟨_, rfl⟩
      rw [hs] at hE hP
      have s0 : 0 ≤ s := by rw [← hs]; exact get16_lo _ _
      have s1 : s ≤ 65535 := by rw [← hs]; exact get16_hi _ _
      obtain ⟨t, hT⟩ : ∃ t, patch s u v = t := ⟨_, rfl⟩
      rw [hT] at hE hP
      have t0 : 0 ≤ t := by rw [← hT]; exact pt_lo _ _ _
      have t1 : t ≤ 65535 := by rw [← hT]; exact pt_hi _ _ _
      obtain ⟨F, hF⟩ : ∃ F, put16 (put16 L 8 v) 10 t = F := ⟨_, rfl⟩
      rw [hF] at hE hP
      obtain ⟨y, hy⟩ : ∃ y, p.ttl - 1 = y := ⟨_, rfl⟩
      have y0 : 0 ≤ y := by omega
      have y1' : y ≤ 255 := by omega
      have hPk : rdPk false F = { p with ttl := y } := by unfold rdPk; rw [if_pos hE, hP, hy]
      have HP := Lib.hid hPk
      have HE := Lib.hid hE
      have HF := Lib.hid hF
      have HT := Lib.hid hT
      have G8 := Lib.hid g8
      have G10 := Lib.hid hs
      have hs2 := sameP_self { p with ttl := y }
      have hvw : ∀ z : Int, z = v → IntKind.u16.wrap z = v := fun z hz => by rw [hz]; simp [IntKind.wrap, IntKind.signed, IntKind.bits]; omega
      clear hL hP hE hPk hF hT g8 hs h ht hu hvw
      go_enter Try.func13, Try.ntmps13
      go_wp2_with (first
        | (go_at_call 14; ((with_reducible refine (cb _ y1 y2).mono ?_); rintro e w3 ⟨A3, n3, c3, rfl, ho3, hB3⟩); have z3 := ho3.bs; have p3 := (P0.below hB3).cell)
        | (go_at_call 27; ((with_reducible refine (get16_any _ n3 c3 L 8 _ z3).mono ?_); rintro e w4 ⟨he4, hD4⟩); rw [G8.out] at he4; subst he4; have z4 := z3.below hD4.bel)
        | (go_at_call 29; ((with_reducible refine (put16_any _ n3 c3 L 8 v v0 v1 _ z4).mono ?_); rintro e w5 ⟨A5, c5, rfl, ho5, hB5⟩); have z5 := z4.below hB5)
        | (go_at_call 27; ((with_reducible refine (get16_any _ n3 c3 L 10 _ z5).mono ?_); rintro e w6 ⟨he6, hD6⟩); rw [G10.out] at he6; subst he6)
        | (go_at_call 30; ((with_reducible refine (patch_any s u v s0 s1 (by omega) u1 v0 v1 _).mono ?_); rintro e w7 ⟨he7, rfl⟩); rw [HT.out] at he7; subst he7)
        | (go_at_call 29; ((with_reducible refine (put16_any _ n3 c5 _ 10 t t0 t1 _ (ho5.bs.below hD6.bel)).mono ?_); rintro e w8 ⟨A8, c8, rfl, ho8, hB8⟩); rw [HF.out] at ho8)
        | (go_at_call 21; ((with_reducible refine (ipParse_w HP.out HE.out A8 n3 c8 _ ho8.bs).mono ?_); rintro e w9 ⟨C1, e1, f1, C2, e2, f2, rfl, i1, i2, a1, a2, T9⟩); have U8 := below_then hB3 (below_then hD4.bel (below_then hB5 (below_then hD6.bel hB8))); have kl := (P0.below U8).lt; have U9 := below_then U8 T9; have kl9 := (P0.below U9).lt; have P9 := (P0.below U9).alloc (.cells #[.int .u8 p.tos, .int .u16 p.id, .bool p.keep, .int .u8 y, .int .u8 p.proto, .int .u32 p.src, .int .u32 p.dst, .slice C1 e1 f1, .slice C2 e2 f2] 26); have q9 := blk_new w9 #[.int .u8 p.tos, .int .u16 p.id, .bool p.keep, .int .u8 y, .int .u8 p.proto, .int .u32 p.src, .int .u32 p.dst, .slice C1 e1 f1, .slice C2 e2 f2] 26 _ rfl; have p9 := P9.cell; (obtain ⟨wf, hwf, S⟩ := store1 P9 3 (.int .u8 y)); simp only [List.setIfInBounds_toArray, List.set_cons_zero, List.set_cons_succ] at S; have pf := S.blk.cell; have qf := (S.other (by omega) q9).cell; have Uf := S.bel (below_alloc (below_then R1 U9) (Nat.le_refl _) (.cells #[.int .u8 p.tos, .int .u16 p.id, .bool p.keep, .int .u8 y, .int .u8 p.proto, .int .u32 p.src, .int .u32 p.dst, .slice C1 e1 f1, .slice C2 e2 f2] 26)) (by omega); have j1 := S.bs (i1.alloc (.cells #[.int .u8 p.tos, .int .u16 p.id, .bool p.keep, .int .u8 y, .int .u8 p.proto, .int .u32 p.src, .int .u32 p.dst, .slice C1 e1 f1, .slice C2 e2 f2] 26)) (fun a e => by have := a1 a e; omega); have j2 := S.bs (i2.alloc (.cells #[.int .u8 p.tos, .int .u16 p.id, .bool p.keep, .int .u8 y, .int .u8 p.proto, .int .u32 p.src, .int .u32 p.dst, .slice C1 e1 f1, .slice C2 e2 f2] 26)) (fun a e => by have := a2 a e; omega))
        | (go_at_call 19; ((with_reducible refine (same_any { p with ttl := y } { p with ttl := y } A1 n1 c1 A2 n2 c2 C1 e1 f1 C2 e2 f2 _ (k1.below Uf) (k2.below Uf) j1 j2).mono ?_); rintro e w10 ⟨he10, hB10⟩); rw [hs2] at he10; subst he10))
      go_ret
      exact ⟨rfl, below_then Uf hB10⟩
  · have he : (bdE p != 0) = true := by simpa using h
    obtain ⟨E, hE⟩ : ∃ E, bdE p = E := ⟨_, rfl⟩
    simp only [hE] at cb he
    clear h hE
    go_enter Try.func13, Try.ntmps13
    go_wp2_with (first
      | (go_at_call 14; ((with_reducible refine (cb _ y1 y2).mono ?_); rintro e w3 ⟨A3, n3, c3, rfl, ho3, hB3⟩); have p3 := (P0.below hB3).cell)
      | (go_at_call 14; ((with_reducible refine (c0 _).mono ?_); rintro e w4 ⟨A4, n4, c4, rfl, ho4, hB4⟩); have u4 : n4 = 20 := (by rw [← ho4.len]; exact HL.out); subst u4; have U4 := below_then hB3 hB4))
    go_ret
    exact ⟨rfl, below_then R1 U4⟩
end Go.Proofs.Ytkjhickjgncheaa

import Derived.Test.YtkjhickjgncheaaIpV
import Derived.Test.YtkjhickjgncheaaIpS2
namespace Go.Proofs.Ytkjhickjgncheaa
open Go.RowKit
set_option linter.unusedVariables false
set_option linter.unusedSimpArgs false
set_option maxHeartbeats 4000000
set_option maxRecDepth 100000

theorem ipv4Back_walk (w : World) (p : Pkt) (hp : p.Ok) (A1 : Option Addr) (n1 c1 : Nat) (A2 : Option Addr) (n2 c2 : Nat) (k1 : Bs w A1 n1 c1 p.opt) (k2 : Bs w A2 n2 c2 p.dat)
    (B : Option Addr) (m d : Nat) (l : List UInt8) (hb : Bs w B m d l) (hbm : m ≤ 140737488351232) :
    Calls Try.prog 7 #[(.agg #[.int .u8 (p).tos, .int .u16 (p).id, .bool (p).keep, .int .u8 (p).ttl, .int .u8 (p).proto, .int .u32 (p).src, .int .u32 (p).dst, .slice A1 n1 c1, .slice A2 n2 c2]), .slice B m d] w fun e w' => e = .returned (.bool true) ∧ Below w.heap.size w w' := by
  have cb := fun W k1 k2 => bd_any p hp A1 n1 c1 A2 n2 c2 W k1 k2
  obtain ⟨k, hk⟩ : ∃ k : Nat, w.heap.size = k := ⟨_, rfl⟩
  obtain ⟨w1, hw1⟩ : ∃ w1, w.alloc (.cells #[.int .u8 (p).tos, .int .u16 (p).id, .bool (p).keep, .int .u8 (p).ttl, .int .u8 (p).proto, .int .u32 (p).src, .int .u32 (p).dst, .slice A1 n1 c1, .slice A2 n2 c2] 26) = w1 := ⟨_, rfl⟩
  have P0 : Blk w1 k #[.int .u8 (p).tos, .int .u16 (p).id, .bool (p).keep, .int .u8 (p).ttl, .int .u8 (p).proto, .int .u32 (p).src, .int .u32 (p).dst, .slice A1 n1 c1, .slice A2 n2 c2] 26 := by rw [← hw1]; exact blk_new w _ _ k hk
  have R1 : Below w.heap.size w w1 := by rw [← hw1]; (repeat (first | with_reducible exact Below.refl _ _ | with_reducible refine below_drew ?_ | with_reducible refine below_drewN ?_ _ | with_reducible refine below_alloc ?_ (Nat.le_refl _) _ | with_reducible refine Below.setCell ?_ (by first | exact Nat.le_refl _ | (simp only []; omega)) _ | with_reducible assumption))
  have x1 := k1.below R1
  have x2 := k2.below R1
  have y := hb.below R1
  have pc := P0.cell
  clear k1 k2 hb
  by_cases h : bdE p = 0
  · have HP1 := Lib.hid (rdPk_back hp h [])
    have HE1 := Lib.hid (rd_back hp h []).1
    have HP2 := Lib.hid (rdPk_back hp h l)
    have HE2 := Lib.hid (rd_back hp h l).1
    have HN := Lib.hid (bdL_len h)
    have HZ := Lib.hid (bdE_zero h)
    have hs := sameP_self p
    simp only [h] at cb
    rw [List.append_nil] at HP1 HE1
    obtain ⟨L, hL⟩ : ∃ L, bdL p = L := ⟨_, rfl⟩
    simp only [hL] at cb HP1 HE1 HP2 HE2 HN
    have hLl : L.length ≤ 65535 := by have := HN.out; have := HZ.out; omega
    have HLl := Lib.hid hLl
    clear h hL hLl HN HZ
    go_enter Try.func7, Try.ntmps7
    go_wp2_with (first
      | (go_at_call 14; ((with_reducible refine (cb _ x1 x2).mono ?_); rintro e w3 ⟨A3, n3, c3, rfl, ho3, hB3⟩); have z3 := ho3.bs; have u3 : n3 ≤ 65535 := (by rw [← ho3.len]; exact HLl.out))
      | (go_at_call 21; ((with_reducible refine (ipParse_v HP1.out HE1.out A3 n3 c3 _ z3).mono ?_); rintro e w4 ⟨C1, e1, f1, C2, e2, f2, rfl, i1, i2, T4⟩); have V4 := below_alloc (below_then hB3 T4) (Nat.le_refl _) (.cells #[.int .u8 (p).tos, .int .u16 (p).id, .bool (p).keep, .int .u8 (p).ttl, .int .u8 (p).proto, .int .u32 (p).src, .int .u32 (p).dst, .slice C1 e1 f1, .slice C2 e2 f2] 26); have z4 := (z3.below T4).alloc (.cells #[.int .u8 (p).tos, .int .u16 (p).id, .bool (p).keep, .int .u8 (p).ttl, .int .u8 (p).proto, .int .u32 (p).src, .int .u32 (p).dst, .slice C1 e1 f1, .slice C2 e2 f2] 26); have Q4 := blk_new w4 #[.int .u8 (p).tos, .int .u16 (p).id, .bool (p).keep, .int .u8 (p).ttl, .int .u8 (p).proto, .int .u32 (p).src, .int .u32 (p).dst, .slice C1 e1 f1, .slice C2 e2 f2] 26 _ rfl; have m1 := i1.alloc (.cells #[.int .u8 (p).tos, .int .u16 (p).id, .bool (p).keep, .int .u8 (p).ttl, .int .u8 (p).proto, .int .u32 (p).src, .int .u32 (p).dst, .slice C1 e1 f1, .slice C2 e2 f2] 26); have m2 := i2.alloc (.cells #[.int .u8 (p).tos, .int .u16 (p).id, .bool (p).keep, .int .u8 (p).ttl, .int .u8 (p).proto, .int .u32 (p).src, .int .u32 (p).dst, .slice C1 e1 f1, .slice C2 e2 f2] 26); (obtain ⟨v4, hv4⟩ : ∃ v4, w4.alloc (.cells #[.int .u8 (p).tos, .int .u16 (p).id, .bool (p).keep, .int .u8 (p).ttl, .int .u8 (p).proto, .int .u32 (p).src, .int .u32 (p).dst, .slice C1 e1 f1, .slice C2 e2 f2] 26) = v4 := ⟨_, rfl⟩); rw [hv4] at V4 z4 Q4 m1 m2)
      | (at_builtin; refine wpList_append_bs (w0 := v4) _ rfl _ _ _ rfl v4.heap.size 5 Try.underlying24 info_u8 none 0 0 [] rfl (own_nil _ _ _) A3 n3 c3 L rfl z4 (Below.refl _ _) (by omega) (by first | exact Nat.le_refl _ | exact Below.size (Below.refl _ _) | omega | (simp <;> omega)) ?_; intro A5 n5 c5 w5 ho5 hB5 _ hz5; have u5 : n5 = n3 := (by rw [← ho5.len, ← z3.len]; rfl); subst u5; have ho5' : Own w5 v4.heap.size 5 A5 n5 c5 L := ho5)
      | (at_builtin; refine wpList_append_bs (w0 := v4) _ rfl _ _ _ rfl v4.heap.size 5 Try.underlying24 info_u8 A5 n5 c5 L rfl ho5' B m d l rfl ((y.below V4).below hB5) hB5 (by omega) (by first | exact Nat.le_refl _ | exact Below.size hB5 | omega | (simp <;> omega)) ?_; intro A6 n6 c6 w6 ho6 hB6 _ hz6)
      | (go_at_call 21; ((with_reducible refine (ipParse_v HP2.out HE2.out A6 n6 c6 w6 ho6.bs).mono ?_); rintro e w7 ⟨D1, g1, h1, D2, g2, h2, rfl, j1, j2, T7⟩); have U7 := below_then V4 (below_then hB6 T7); have Q7 := (Q4.below hB6).below T7; have m3 := (m1.below hB6).below T7; have m4 := (m2.below hB6).below T7)
      | (go_at_call 16; ((with_reducible refine (live02_any _).mono ?_); rintro e w9 ⟨rfl, hB9⟩); have U9 := below_then (below_alloc U7 (Nat.le_refl _) _) hB9; have p9 := (P0.below U9).cell; have q9 := ((Q7.alloc _).below hB9).cell; have r9 := ((blk_new w7 _ _ _ rfl).below hB9).cell)
      | (go_at_call 20; ((with_reducible refine (rsame_any p p A1 n1 c1 A2 n2 c2 C1 e1 f1 C2 e2 f2 _ (x1.below U9) (x2.below U9) ((m3.alloc _).below hB9) ((m4.alloc _).below hB9)).mono ?_); rintro e w10 ⟨rfl, hB10⟩); have U10 := below_then U9 hB10; have p10 := (P0.below U10).cell; have r10 := (((blk_new w7 _ _ _ rfl).below hB9).below hB10).cell)
      | (go_at_call 20; ((with_reducible refine (rsame_any p p A1 n1 c1 A2 n2 c2 D1 g1 h1 D2 g2 h2 _ (x1.below U10) (x2.below U10) (((j1.alloc _).below hB9).below hB10) (((j2.alloc _).below hB9).below hB10)).mono ?_); rintro e w11 ⟨rfl, hB11⟩)))
    go_ret
    exact ⟨rfl, below_then (below_then R1 U10) hB11⟩
  · have hr : rightP p = false := by
      cases hr : rightP p with
      | false => rfl
      | true => exact absurd ((bdE_zero_iff p).2 hr) h
    rw [bdL_bad h] at cb
    have he : (bdE p != 0) = true := by simpa using h
    obtain ⟨E, hE⟩ : ∃ E, bdE p = E := ⟨_, rfl⟩
    simp only [hE] at cb he
    clear h hE
    go_enter Try.func7, Try.ntmps7
    go_wp2_with (first
      | (go_at_call 14; ((with_reducible refine (cb _ x1 x2).mono ?_); rintro e w3 ⟨A3, n3, c3, rfl, ho3, hB3⟩); have u3 : n3 = 0 := (by rw [← ho3.len]; rfl); subst u3)
      | (go_at_call 16; ((with_reducible refine (live02_any _).mono ?_); rintro e w4 ⟨rfl, hB4⟩); have U4 := below_then hB3 hB4; have p4 := (P0.below U4).cell)
      | (go_at_call 18; ((with_reducible refine (rright_any p A1 n1 c1 A2 n2 c2 _ (x1.below U4) (x2.below U4)).mono ?_); rintro e w5 ⟨rfl, hB5⟩)))
    go_ret
    exact ⟨rfl, below_then (below_then R1 U4) hB5⟩
end Go.Proofs.Ytkjhickjgncheaa

/- The Go law SegsSame: for every input the call returns true and each argument reads as it did. No other condition. -/
import Derived.Test.YtjjhnjkmoogloaaK5
import Derived.Test.YtjjhnjkmoogloaaK4
import Derived.Test.YtjjhnjkmoogloaaK2
/- SegsSame. -/
namespace Go.Proofs.Ytjjhnjkmoogloaa
open Go.RowKit
set_option linter.unusedVariables false
set_option linter.unusedSimpArgs false
set_option linter.unusedSimpArgs false
set_option maxHeartbeats 4000000
set_option maxRecDepth 100000

theorem segsSame_walk (w : World) (s : Seg) (hs : s.Ok) (OA : Option Addr) (on oc : Nat) (A1 : Option Addr) (n1 c1 : Nat) (K1 : Os w OA on oc s.opts) (k1 : Bs w A1 n1 c1 s.dat) (hn1 : n1 ≤ 140737488351232) (r : Seg) (hr : r.Ok) (PA : Option Addr) (pn pc : Nat) (A2 : Option Addr) (n2 c2 : Nat) (K2 : Os w PA pn pc r.opts) (k2 : Bs w A2 n2 c2 r.dat) (hn2 : n2 ≤ 140737488351232)
    (f : Dgm) (hf : f.Ok) (B1 : Option Addr) (m1 d1 : Nat) (j1 : Bs w B1 m1 d1 f.dat) (hm1 : m1 ≤ 140737488351232) (g : Dgm) (hg : g.Ok) (B2 : Option Addr) (m2 d2 : Nat) (j2 : Bs w B2 m2 d2 g.dat) (hm2 : m2 ≤ 140737488351232) :
    Calls Try.prog 12 #[(.agg #[.int .u16 (s).src, .int .u16 (s).dst, .int .u32 (s).seq, .int .u32 (s).ack, .int .u8 (s).flags, .int .u16 (s).win, .int .u16 (s).urg, .slice OA on oc, .slice A1 n1 c1]), (.agg #[.int .u16 (r).src, .int .u16 (r).dst, .int .u32 (r).seq, .int .u32 (r).ack, .int .u8 (r).flags, .int .u16 (r).win, .int .u16 (r).urg, .slice PA pn pc, .slice A2 n2 c2]), .agg ([.int .u16 (f).src, .int .u16 (f).dst, .bool (f).bare, .slice B1 m1 d1] ++ [.int .u16 (g).src, .int .u16 (g).dst, .bool (g).bare, .slice B2 m2 d2] : List Value).toArray] w fun e w' => e = .returned (.bool true) ∧ Below w.heap.size w w' := by
  have ca := fun W K1 k1 K2 k2 => tsame_any s r OA on oc A1 n1 c1 PA pn pc A2 n2 c2 W K1 k1 K2 k2
  have cb := fun W K1 k1 K2 k2 => tsame_any r s PA pn pc A2 n2 c2 OA on oc A1 n1 c1 W K2 k2 K1 k1
  have cc := fun W K1 k1 => tsame_any s s OA on oc A1 n1 c1 OA on oc A1 n1 c1 W K1 k1 K1 k1
  have cd := fun W K1 k1 K2 k2 => rtsame_any s r OA on oc A1 n1 c1 PA pn pc A2 n2 c2 W K1 k1 K2 k2
  have ce := fun W k1 k2 => dsame_any f g B1 m1 d1 B2 m2 d2 W k1 k2
  have cf := fun W k1 => dsame_any f f B1 m1 d1 B1 m1 d1 W k1 k1
  have cg := fun W k1 k2 => rdsame_any f g B1 m1 d1 B2 m2 d2 W k1 k2
  simp only [sameS_self, sameD_self, sameS_comm r s] at ca cb cc cd ce cf cg
  obtain ⟨a, ha⟩ : ∃ a, sameS s r = a := ⟨_, rfl⟩
  obtain ⟨b, hb⟩ : ∃ b, sameD f g = b := ⟨_, rfl⟩
  simp only [ha, hb] at ca cb cd ce cg
  clear ha hb
  show Calls Try.prog 12 #[(.agg #[.int .u16 (s).src, .int .u16 (s).dst, .int .u32 (s).seq, .int .u32 (s).ack, .int .u8 (s).flags, .int .u16 (s).win, .int .u16 (s).urg, .slice OA on oc, .slice A1 n1 c1]), (.agg #[.int .u16 (r).src, .int .u16 (r).dst, .int .u32 (r).seq, .int .u32 (r).ack, .int .u8 (r).flags, .int .u16 (r).win, .int .u16 (r).urg, .slice PA pn pc, .slice A2 n2 c2]), .agg #[.int .u16 f.src, .int .u16 f.dst, .bool f.bare, .slice B1 m1 d1, .int .u16 g.src, .int .u16 g.dst, .bool g.bare, .slice B2 m2 d2]] w _
  obtain ⟨k, hk⟩ : ∃ k : Nat, w.heap.size = k := ⟨_, rfl⟩
  obtain ⟨w1, hw1⟩ : ∃ W, (((w.alloc (.cells #[.int .u16 (s).src, .int .u16 (s).dst, .int .u32 (s).seq, .int .u32 (s).ack, .int .u8 (s).flags, .int .u16 (s).win, .int .u16 (s).urg, .slice OA on oc, .slice A1 n1 c1] 29)).alloc (.cells #[.int .u16 (r).src, .int .u16 (r).dst, .int .u32 (r).seq, .int .u32 (r).ack, .int .u8 (r).flags, .int .u16 (r).win, .int .u16 (r).urg, .slice PA pn pc, .slice A2 n2 c2] 29)).alloc (.cells #[.int .u16 f.src, .int .u16 f.dst, .bool f.bare, .slice B1 m1 d1, .int .u16 g.src, .int .u16 g.dst, .bool g.bare, .slice B2 m2 d2] 54)) = W := ⟨_, rfl⟩
  have P1 : Blk w1 k #[.int .u16 (s).src, .int .u16 (s).dst, .int .u32 (s).seq, .int .u32 (s).ack, .int .u8 (s).flags, .int .u16 (s).win, .int .u16 (s).urg, .slice OA on oc, .slice A1 n1 c1] 29 := by rw [← hw1]; exact (((blk_new _ _ _ k (by simp [hk])).alloc _).alloc _)
  have Q1 : Blk w1 (k + 1) #[.int .u16 (r).src, .int .u16 (r).dst, .int .u32 (r).seq, .int .u32 (r).ack, .int .u8 (r).flags, .int .u16 (r).win, .int .u16 (r).urg, .slice PA pn pc, .slice A2 n2 c2] 29 := by rw [← hw1]; exact ((blk_new _ _ _ (k + 1) (by simp [hk])).alloc _)
  have L1 : Blk w1 (k + 1 + 1) #[.int .u16 f.src, .int .u16 f.dst, .bool f.bare, .slice B1 m1 d1, .int .u16 g.src, .int .u16 g.dst, .bool g.bare, .slice B2 m2 d2] 54 := by rw [← hw1]; exact (blk_new _ _ _ (k + 1 + 1) (by simp [hk]))
  have R1 : Below w.heap.size w w1 := by rw [← hw1]; (repeat (first | with_reducible exact Below.refl _ _ | with_reducible refine below_drew ?_ | with_reducible refine below_drewN ?_ _ | with_reducible refine below_alloc ?_ (Nat.le_refl _) _ | with_reducible refine Below.setCell ?_ (by first | exact Nat.le_refl _ | (simp only []; omega)) _ | with_reducible assumption))
  have Pc1 := P1.cell
  have Qc1 := Q1.cell
  have Lc1 := L1.cell
  have Pl1 := P1.lt
  have Ql1 := Q1.lt
  have Ll1 := L1.lt
  have x1 := (k1).below R1
  have y1 := (k2).below R1
  have z1 := (j1).below R1
  have u1 := (j2).below R1
  have KK1 := K1.below R1
  have KK2 := K2.below R1
  clear k1 k2 j1 j2 K1 K2
  go_enter Try.func12, Try.ntmps12
  go_wp2_with fail
  cases a <;> cases b
  all_goals refine region_txt 44 (by kernel_rfl) (by kernel_rfl) ?_; (iterate 44 (first | (apply ObsK.skip (by rfl)) | (apply ObsK.v (by rfl); (intro wo hT; (repeat (first | (intro _ _ k; try have hcv := cv k))); (have pco := (P1.below hT).cell; have qco := (Q1.below hT).cell; have lco := (L1.below hT).cell; have xo := x1.below hT; have yo := y1.below hT; have zo := z1.below hT; have uo := u1.below hT; have K1o := KK1.below hT; have K2o := KK2.below hT); refine Goes.mk ?_; go_simp; first | exact goes_v | exact goes_b (by assumption) | (refine goes_enter ?_; first | (go_at_call 16; ((with_reducible refine (live03_any wo).mono ?_); rintro e w5 ⟨rfl, hD5⟩); exact ret_v hD5) | (go_at_call 31; ((with_reducible refine (ca wo K1o xo K2o yo).mono ?_); rintro e w5 ⟨rfl, hD5⟩); exact ret_v hD5) | (go_at_call 31; ((with_reducible refine (cb wo K1o xo K2o yo).mono ?_); rintro e w5 ⟨rfl, hD5⟩); exact ret_v hD5) | (go_at_call 31; ((with_reducible refine (cc wo K1o xo).mono ?_); rintro e w5 ⟨rfl, hD5⟩); exact ret_v hD5) | (go_at_call 17; ((with_reducible refine (cd wo K1o xo K2o yo).mono ?_); rintro e w5 ⟨rfl, hD5⟩); exact ret_v hD5) | (go_at_call 32; ((with_reducible refine (ce wo zo uo).mono ?_); rintro e w5 ⟨rfl, hD5⟩); exact ret_v hD5) | (go_at_call 32; ((with_reducible refine (cf wo zo).mono ?_); rintro e w5 ⟨rfl, hD5⟩); exact ret_v hD5) | (go_at_call 29; ((with_reducible refine (cg wo zo uo).mono ?_); rintro e w5 ⟨rfl, hD5⟩); exact ret_v hD5)))) | (apply ObsK.b (by rfl); (intro wo hT; (repeat (first | (intro _ _ k; try have hcv := cv k))); (have pco := (P1.below hT).cell; have qco := (Q1.below hT).cell; have lco := (L1.below hT).cell; have xo := x1.below hT; have yo := y1.below hT; have zo := z1.below hT; have uo := u1.below hT; have K1o := KK1.below hT; have K2o := KK2.below hT); refine Goes.mk ?_; go_simp; first | exact goes_v | exact goes_b (by assumption) | (refine goes_enter ?_; first | (go_at_call 16; ((with_reducible refine (live03_any wo).mono ?_); rintro e w5 ⟨rfl, hD5⟩); exact ret_v hD5) | (go_at_call 31; ((with_reducible refine (ca wo K1o xo K2o yo).mono ?_); rintro e w5 ⟨rfl, hD5⟩); exact ret_v hD5) | (go_at_call 31; ((with_reducible refine (cb wo K1o xo K2o yo).mono ?_); rintro e w5 ⟨rfl, hD5⟩); exact ret_v hD5) | (go_at_call 31; ((with_reducible refine (cc wo K1o xo).mono ?_); rintro e w5 ⟨rfl, hD5⟩); exact ret_v hD5) | (go_at_call 17; ((with_reducible refine (cd wo K1o xo K2o yo).mono ?_); rintro e w5 ⟨rfl, hD5⟩); exact ret_v hD5) | (go_at_call 32; ((with_reducible refine (ce wo zo uo).mono ?_); rintro e w5 ⟨rfl, hD5⟩); exact ret_v hD5) | (go_at_call 32; ((with_reducible refine (cf wo zo).mono ?_); rintro e w5 ⟨rfl, hD5⟩); exact ret_v hD5) | (go_at_call 29; ((with_reducible refine (cg wo zo uo).mono ?_); rintro e w5 ⟨rfl, hD5⟩); exact ret_v hD5)))))); refine ObsK.nil ?_; intro wz hBz; simp only [finOn, List.drop_succ_cons, List.drop_zero, List.drop_nil]
  all_goals go_simp
  all_goals go_wp2_with fail
  all_goals go_ret
  all_goals exact ⟨rfl, below_then R1 hBz⟩
end Go.Proofs.Ytjjhnjkmoogloaa

/- The Go law SegsSame: for every input the call returns true and each argument reads as it did. No other condition. -/
namespace Go.Proofs.Ytjjhnjkmoogloaa.segsSame
open Go.ChangeShapes Go.WideShapes Go.ChangeAt Go.RowKit
set_option linter.unusedVariables false
set_option maxRecDepth 100000 in
theorem lifted (os : Go.Os) (started : os.Started) (H : Type) (enc : TypeId × Value → H) :
    ReturnsInHanded {} Try.checked os 12 .any (Rows.segsSameSpec.pre6 enc Try.prog Try.f12 Rows.segsSameRow.domain false) (Rows.segsSameSpec.post enc Try.prog Try.f12 false true false false) := by
  refine returnsInHanded_of_change_sized (C := Try.checked) own_knob started (by kernel_rfl) Try.func12
    (ChangeSpec.witness6 (enc := enc) (C := Try.checked) false ⟨#[], #[.agg #[.int .u16 0, .int .u16 0, .int .u32 0, .int .u32 0, .int .u8 0, .int .u16 0, .int .u16 0, .slice none 0 0, .slice none 0 0], .agg #[.int .u16 0, .int .u16 0, .int .u32 0, .int .u32 0, .int .u8 0, .int .u16 0, .int .u16 0, .slice none 0 0, .slice none 0 0], .agg #[.int .u16 0, .int .u16 0, .bool false, .slice none 0 0, .int .u16 0, .int .u16 0, .bool false, .slice none 0 0]], []⟩ 8 (by kernel_rfl) (by kernel_rfl) (by kernel_rfl) (by kernel_rfl)) ?_
  intro W base args ds gs before hval0 hW hcnd hsz0 hholds
  have hval : ∀ (j : Nat) t v, Try.f12.params[j]? = some t → args[j]? = some v → Value.okWide Try.prog W .any base t v := hval0
  have hW' := hW
  obtain ⟨p, q, hA0, hV, rfl, hfz, hnd⟩ := hW
  obtain ⟨rfl, rfl⟩ := trodVars_none hV
  have hA : DataW.TrodAll enc Try.prog W 0 (fun _ => true) true Try.f12.params.toList args.toList ds p := hA0
  have hsz : (DataW.weightsEach Try.prog [29, 29, 54] (ds ++ [])).all (· ≤ reachBytes) = true := hsz0
  simp only [List.append_nil] at hsz
  rw [Try.params12] at hA hval
  obtain ⟨v0, vs0, d0, ds0, p0, q0, hargs, rfl, rfl, h0, r0⟩ := trodAll_cons hA
  obtain ⟨v1, vs1, d1, ds1, p1, q1, rfl, rfl, rfl, h1, r1⟩ := trodAll_cons r0
  obtain ⟨v2, vs2, d2, ds2, p2, q2, rfl, rfl, rfl, h2, r2⟩ := trodAll_cons r1
  obtain ⟨rfl, rfl, rfl⟩ := trodAll_nil r2
  obtain rfl : args = #[v0, v1, v2] := by cases args; simp_all
  obtain ⟨sg0, OA0, on0, oc0, A0, n0, c0, rfl, ok0, KA0, ka0, hm0⟩ := open_seg (hval 0 29 v0 rfl rfl) h0 (fun n hn => by simpa using List.all_eq_true.1 hsz n (DataW.weights_mem_each (j := 0) rfl rfl n hn))
  obtain ⟨sg1, OA1, on1, oc1, A1, n1, c1, rfl, ok1, KA1, ka1, hm1⟩ := open_seg (hval 1 29 v1 rfl rfl) h1 (fun n hn => by simpa using List.all_eq_true.1 hsz n (DataW.weights_mem_each (j := 1) rfl rfl n hn))
  obtain ⟨fr2, A2, n2, c2, gr2, B2, m2, e2, rfl, ok2, ka2, hm2, og2, kb2, hn2⟩ := open_dgm2 (hval 2 54 v2 rfl rfl) h2 (fun n hn => by simpa using List.all_eq_true.1 hsz n (DataW.weights_mem_each (j := 2) rfl rfl n hn))
  refine (segsSame_walk W sg0 ok0 OA0 on0 oc0 A0 n0 c0 KA0 ka0 hm0 sg1 ok1 OA1 on1 oc1 A1 n1 c1 KA1 ka1 hm1 fr2 ok2 A2 n2 c2 ka2 hm2 gr2 og2 B2 m2 e2 kb2 hn2).mono fun e W' ⟨he, bel⟩ => ?_
  subst he
  exact ⟨_, rfl, law_post Try.underlying4 rfl laid_out (by kernel_rfl) rfl rfl hW' bel⟩
theorem proved : Rows.SegsSameSaid :=
  OpenClaim.holds_of_wide 12 Try.f12 rfl rfl rfl rfl rfl rfl rfl ⟨rfl, rfl, rfl, rfl, rfl⟩ rfl rfl rfl rfl rfl (by kernel_rfl) Try.func12 (by kernel_rfl)
    (of_decide_eq_true (by kernel_rfl)) (by unfold Func.isWrapper; first | (rw [if_pos (by decide +kernel)]; kernel_rfl) | (rw [if_neg (by decide +kernel)]; exact ⟨rfl, rfl⟩))
    (fun os started H enc _ => lifted os started H enc)
end Go.Proofs.Ytjjhnjkmoogloaa.segsSame
#print axioms Go.Proofs.Ytjjhnjkmoogloaa.segsSame.proved

/- The Go law TupleTwice: for every input the call returns true and each argument reads as it did. No other condition. -/
import Derived.Test.YthgoffbfgdgkpaaK5
/- TupleTurns, TupleTwice. -/
namespace Go.Proofs.Ythgoffbfgdgkpaa
open Go.RowKit
set_option linter.unusedVariables false
set_option linter.unusedSimpArgs false
set_option linter.unusedSimpArgs false
set_option maxHeartbeats 8000000
set_option maxRecDepth 100000

theorem tupleTurns_walk (w : World) (t : Tup) (ht : t.Ok) :
    Calls Try.prog 4 #[(.agg #[.int .u8 (t).proto, .int .u32 (t).src, .int .u32 (t).dst, .int .u16 (t).sp, .int .u16 (t).dp])] w fun e w' => e = .returned (.bool true) ∧ Below w.heap.size w w' := by
  have c1 := fun W => rev_any t W
  have c2 := fun W => rrev_any t W
  have c3 := fun W => key_any t W
  have c4 := fun W => rkey_any t W
  have c5 := fun W => hash_any t ht W
  have c6 := fun W => rhash_any t ht W
  obtain ⟨a, ha⟩ : ∃ a, revT t = a := ⟨_, rfl⟩
  obtain ⟨b, hb⟩ : ∃ a, keyT t = a := ⟨_, rfl⟩
  obtain ⟨h, hh⟩ : ∃ a, hashT t = a := ⟨_, rfl⟩
  rw [ha] at c1 c2
  rw [hb] at c3 c4
  rw [hh] at c5 c6
  clear ha hb hh
  obtain ⟨k, hk⟩ : ∃ k : Nat, w.heap.size = k := ⟨_, rfl⟩
  obtain ⟨w1, hw1⟩ : ∃ W, (w.alloc (.cells #[.int .u8 (t).proto, .int .u32 (t).src, .int .u32 (t).dst, .int .u16 (t).sp, .int .u16 (t).dp] 28)) = W := ⟨_, rfl⟩
  have T1 : Blk w1 k #[.int .u8 (t).proto, .int .u32 (t).src, .int .u32 (t).dst, .int .u16 (t).sp, .int .u16 (t).dp] 28 := by rw [← hw1]; exact (blk_new _ _ _ k (by simp [hk]))
  have R1 : Below w.heap.size w w1 := by rw [← hw1]; (repeat (first | with_reducible exact Below.refl _ _ | with_reducible refine below_drew ?_ | with_reducible refine below_drewN ?_ _ | with_reducible refine below_alloc ?_ (Nat.le_refl _) _ | with_reducible refine Below.setCell ?_ (by first | exact Nat.le_refl _ | (simp only []; omega)) _ | with_reducible assumption))
  have Tc1 := T1.cell
  have Tl1 := T1.lt
  go_enter Try.func4, Try.ntmps4
  go_wp2_with fail
  refine region_txt 22 (by kernel_rfl) (by kernel_rfl) ?_; (iterate 22 (first | (apply ObsK.skip (by rfl)) | (apply ObsK.v (by rfl); (intro wo hT; (repeat (first | (intro _ _ k; try have hcv := cv k))); (have tco := (T1.below hT).cell); refine Goes.mk ?_; go_simp; first | exact goes_v | exact goes_b (by assumption) | (refine goes_enter ?_; first | (go_at_call 12; ((with_reducible refine (live05_any wo).mono ?_); rintro e w5 ⟨rfl, hD5⟩); exact ret_v hD5) | (go_at_call 13; ((with_reducible refine (c1 wo).mono ?_); rintro e w5 ⟨rfl, hD5⟩); exact ret_v hD5) | (go_at_call 14; ((with_reducible refine (c2 wo).mono ?_); rintro e w5 ⟨rfl, hD5⟩); exact ret_v hD5) | (go_at_call 15; ((with_reducible refine (c3 wo).mono ?_); rintro e w5 ⟨rfl, hD5⟩); exact ret_v hD5) | (go_at_call 16; ((with_reducible refine (c4 wo).mono ?_); rintro e w5 ⟨rfl, hD5⟩); exact ret_v hD5) | (go_at_call 17; ((with_reducible refine (c5 wo).mono ?_); rintro e w5 ⟨rfl, hD5⟩); exact ret_v hD5) | (go_at_call 18; ((with_reducible refine (c6 wo).mono ?_); rintro e w5 ⟨rfl, hD5⟩); exact ret_v hD5)))) | (apply ObsK.b (by rfl); (intro wo hT; (repeat (first | (intro _ _ k; try have hcv := cv k))); (have tco := (T1.below hT).cell); refine Goes.mk ?_; go_simp; first | exact goes_v | exact goes_b (by assumption) | (refine goes_enter ?_; first | (go_at_call 12; ((with_reducible refine (live05_any wo).mono ?_); rintro e w5 ⟨rfl, hD5⟩); exact ret_v hD5) | (go_at_call 13; ((with_reducible refine (c1 wo).mono ?_); rintro e w5 ⟨rfl, hD5⟩); exact ret_v hD5) | (go_at_call 14; ((with_reducible refine (c2 wo).mono ?_); rintro e w5 ⟨rfl, hD5⟩); exact ret_v hD5) | (go_at_call 15; ((with_reducible refine (c3 wo).mono ?_); rintro e w5 ⟨rfl, hD5⟩); exact ret_v hD5) | (go_at_call 16; ((with_reducible refine (c4 wo).mono ?_); rintro e w5 ⟨rfl, hD5⟩); exact ret_v hD5) | (go_at_call 17; ((with_reducible refine (c5 wo).mono ?_); rintro e w5 ⟨rfl, hD5⟩); exact ret_v hD5) | (go_at_call 18; ((with_reducible refine (c6 wo).mono ?_); rintro e w5 ⟨rfl, hD5⟩); exact ret_v hD5)))))); refine ObsK.nil ?_; intro wz hBz; simp only [finOn, List.drop_succ_cons, List.drop_zero, List.drop_nil]
  go_simp
  go_wp2_with fail
  go_ret
  exact ⟨rfl, below_then R1 hBz⟩

theorem ways5 (a0 a1 a2 a3 a4 b0 b1 b2 b3 b4 : Int) : (a0 ≠ b0) ∨ (a0 = b0 ∧ a1 ≠ b1) ∨ (a0 = b0 ∧ a1 = b1 ∧ a2 ≠ b2) ∨ (a0 = b0 ∧ a1 = b1 ∧ a2 = b2 ∧ a3 ≠ b3) ∨ (a0 = b0 ∧ a1 = b1 ∧ a2 = b2 ∧ a3 = b3 ∧ a4 ≠ b4) ∨ (a0 = b0 ∧ a1 = b1 ∧ a2 = b2 ∧ a3 = b3 ∧ a4 = b4) := by omega
theorem tupleTwice_walk (w : World) (t : Tup) (ht : t.Ok) (s : Tup) (hs : s.Ok) :
    Calls Try.prog 5 #[(.agg #[.int .u8 (t).proto, .int .u32 (t).src, .int .u32 (t).dst, .int .u16 (t).sp, .int .u16 (t).dp]), (.agg #[.int .u8 (s).proto, .int .u32 (s).src, .int .u32 (s).dst, .int .u16 (s).sp, .int .u16 (s).dp])] w fun e w' => e = .returned (.bool true) ∧ Below w.heap.size w w' := by
  have c1 := fun W => rev_any t W
  have c2 := fun W => rev_any (revT t) W
  rw [revT_twice] at c2
  have c3 := fun W => key_any t W
  have c4 := fun W => key_any s W
  have c7 := fun W => key_any (keyT t) W
  rw [keyT_twice] at c7
  have c5 := fun W => hash_any t ht W
  have c6 := fun W => hash_any s hs W
  have hab : keyT t = keyT s → hashT t = hashT s := fun h => by unfold hashT; rw [h]
  obtain ⟨r, hr⟩ : ∃ a, revT t = a := ⟨_, rfl⟩
  obtain ⟨a, ha⟩ : ∃ a, keyT t = a := ⟨_, rfl⟩
  obtain ⟨b, hb⟩ : ∃ a, keyT s = a := ⟨_, rfl⟩
  obtain ⟨h, hh⟩ : ∃ a, hashT t = a := ⟨_, rfl⟩
  obtain ⟨j, hj⟩ : ∃ a, hashT s = a := ⟨_, rfl⟩
  rw [hr] at c1 c2
  rw [ha] at c3 c7
  rw [hb] at c4
  rw [hh] at c5
  rw [hj] at c6
  rw [ha, hb, hh, hj] at hab
  clear hr ha hb hh hj
  obtain ⟨a0, a1, a2, a3, a4⟩ := a
  obtain ⟨b0, b1, b2, b3, b4⟩ := b
  obtain ⟨k, hk⟩ : ∃ k : Nat, w.heap.size = k := ⟨_, rfl⟩
  obtain ⟨w1, hw1⟩ : ∃ W, ((w.alloc (.cells #[.int .u8 (t).proto, .int .u32 (t).src, .int .u32 (t).dst, .int .u16 (t).sp, .int .u16 (t).dp] 28)).alloc (.cells #[.int .u8 (s).proto, .int .u32 (s).src, .int .u32 (s).dst, .int .u16 (s).sp, .int .u16 (s).dp] 28)) = W := ⟨_, rfl⟩
  have T1 : Blk w1 k #[.int .u8 (t).proto, .int .u32 (t).src, .int .u32 (t).dst, .int .u16 (t).sp, .int .u16 (t).dp] 28 := by rw [← hw1]; exact ((blk_new _ _ _ k (by simp [hk])).alloc _)
  have Q1 : Blk w1 (k + 1) #[.int .u8 (s).proto, .int .u32 (s).src, .int .u32 (s).dst, .int .u16 (s).sp, .int .u16 (s).dp] 28 := by rw [← hw1]; exact (blk_new _ _ _ (k + 1) (by simp [hk]))
  have R1 : Below w.heap.size w w1 := by rw [← hw1]; (repeat (first | with_reducible exact Below.refl _ _ | with_reducible refine below_drew ?_ | with_reducible refine below_drewN ?_ _ | with_reducible refine below_alloc ?_ (Nat.le_refl _) _ | with_reducible refine Below.setCell ?_ (by first | exact Nat.le_refl _ | (simp only []; omega)) _ | with_reducible assumption))
  have Tc1 := T1.cell
  have Qc1 := Q1.cell
  have Tl1 := T1.lt
  have Ql1 := Q1.lt
  go_enter Try.func5, Try.ntmps5
  go_wp2_with fail
  rcases ways5 a0 a1 a2 a3 a4 b0 b1 b2 b3 b4 with hd | ⟨rfl, hd⟩ | ⟨rfl, rfl, hd⟩ | ⟨rfl, rfl, rfl, hd⟩ | ⟨rfl, rfl, rfl, rfl, hd⟩ | ⟨rfl, rfl, rfl, rfl, rfl⟩
  all_goals first | (obtain rfl := hab rfl) | clear hab
  all_goals refine region_txt 30 (by kernel_rfl) (by kernel_rfl) ?_; (iterate 30 (first | (apply ObsK.skip (by rfl)) | (apply ObsK.v (by rfl); (intro wo hT; (repeat (first | (intro _ _ k; try have hcv := cv k))); (have tco := (T1.below hT).cell; have qco := (Q1.below hT).cell); refine Goes.mk ?_; go_simp; first | exact goes_v | exact goes_b (by assumption) | (refine goes_enter ?_; first | (go_at_call 12; ((with_reducible refine (live05_any wo).mono ?_); rintro e w5 ⟨rfl, hD5⟩); exact ret_v hD5) | (go_at_call 13; ((with_reducible refine (c1 wo).mono ?_); rintro e w5 ⟨rfl, hD5⟩); exact ret_v hD5) | (go_at_call 13; ((with_reducible refine (c2 wo).mono ?_); rintro e w5 ⟨rfl, hD5⟩); exact ret_v hD5) | (go_at_call 15; ((with_reducible refine (c3 wo).mono ?_); rintro e w5 ⟨rfl, hD5⟩); exact ret_v hD5) | (go_at_call 15; ((with_reducible refine (c4 wo).mono ?_); rintro e w5 ⟨rfl, hD5⟩); exact ret_v hD5) | (go_at_call 15; ((with_reducible refine (c7 wo).mono ?_); rintro e w5 ⟨rfl, hD5⟩); exact ret_v hD5) | (go_at_call 17; ((with_reducible refine (c5 wo).mono ?_); rintro e w5 ⟨rfl, hD5⟩); exact ret_v hD5) | (go_at_call 17; ((with_reducible refine (c6 wo).mono ?_); rintro e w5 ⟨rfl, hD5⟩); exact ret_v hD5)))) | (apply ObsK.b (by rfl); (intro wo hT; (repeat (first | (intro _ _ k; try have hcv := cv k))); (have tco := (T1.below hT).cell; have qco := (Q1.below hT).cell); refine Goes.mk ?_; go_simp; first | exact goes_v | exact goes_b (by assumption) | (refine goes_enter ?_; first | (go_at_call 12; ((with_reducible refine (live05_any wo).mono ?_); rintro e w5 ⟨rfl, hD5⟩); exact ret_v hD5) | (go_at_call 13; ((with_reducible refine (c1 wo).mono ?_); rintro e w5 ⟨rfl, hD5⟩); exact ret_v hD5) | (go_at_call 13; ((with_reducible refine (c2 wo).mono ?_); rintro e w5 ⟨rfl, hD5⟩); exact ret_v hD5) | (go_at_call 15; ((with_reducible refine (c3 wo).mono ?_); rintro e w5 ⟨rfl, hD5⟩); exact ret_v hD5) | (go_at_call 15; ((with_reducible refine (c4 wo).mono ?_); rintro e w5 ⟨rfl, hD5⟩); exact ret_v hD5) | (go_at_call 15; ((with_reducible refine (c7 wo).mono ?_); rintro e w5 ⟨rfl, hD5⟩); exact ret_v hD5) | (go_at_call 17; ((with_reducible refine (c5 wo).mono ?_); rintro e w5 ⟨rfl, hD5⟩); exact ret_v hD5) | (go_at_call 17; ((with_reducible refine (c6 wo).mono ?_); rintro e w5 ⟨rfl, hD5⟩); exact ret_v hD5)))))); refine ObsK.nil ?_; intro wz hBz; simp only [finOn, List.drop_succ_cons, List.drop_zero, List.drop_nil]
  all_goals go_simp
  all_goals go_wp2_with fail
  all_goals go_ret
  all_goals refine ⟨rfl, ?_⟩
  all_goals first | exact below_then R1 hBz | (have hx := below_then R1 hBz; rw [hk] at hx; exact hx)
end Go.Proofs.Ythgoffbfgdgkpaa

/- The Go law TupleTwice: for every input the call returns true and each argument reads as it did. No other condition. -/
namespace Go.Proofs.Ythgoffbfgdgkpaa.tupleTwice
open Go.ChangeShapes Go.WideShapes Go.ChangeAt Go.RowKit
set_option linter.unusedVariables false
set_option maxRecDepth 100000 in
theorem lifted (os : Go.Os) (started : os.Started) (H : Type) (enc : TypeId × Value → H) :
    ReturnsInHanded {} Try.checked os 5 .any (Rows.tupleTwiceSpec.pre6 enc Try.prog Try.f5 Rows.tupleTwiceRow.domain false) (Rows.tupleTwiceSpec.post enc Try.prog Try.f5 false true false false) := by
  refine returnsInHanded_of_change_sized (C := Try.checked) own_knob started (by kernel_rfl) Try.func5
    (ChangeSpec.witness6 (enc := enc) (C := Try.checked) false ⟨#[], #[.agg #[.int .u8 0, .int .u32 0, .int .u32 0, .int .u16 0, .int .u16 0], .agg #[.int .u8 0, .int .u32 0, .int .u32 0, .int .u16 0, .int .u16 0]], []⟩ 8 (by kernel_rfl) (by kernel_rfl) (by kernel_rfl) (by kernel_rfl)) ?_
  intro W base args ds gs before hval0 hW hcnd hsz0 hholds
  have hval : ∀ (j : Nat) t v, Try.f5.params[j]? = some t → args[j]? = some v → Value.okWide Try.prog W .any base t v := hval0
  have hW' := hW
  obtain ⟨p, q, hA0, hV, rfl, hfz, hnd⟩ := hW
  obtain ⟨rfl, rfl⟩ := trodVars_none hV
  have hA : DataW.TrodAll enc Try.prog W 0 (fun _ => true) true Try.f5.params.toList args.toList ds p := hA0
  have hsz : (DataW.weightsEach Try.prog [28, 28] (ds ++ [])).all (· ≤ reachBytes) = true := hsz0
  simp only [List.append_nil] at hsz
  rw [Try.params5] at hA hval
  obtain ⟨v0, vs0, d0, ds0, p0, q0, hargs, rfl, rfl, h0, r0⟩ := trodAll_cons hA
  obtain ⟨v1, vs1, d1, ds1, p1, q1, rfl, rfl, rfl, h1, r1⟩ := trodAll_cons r0
  obtain ⟨rfl, rfl, rfl⟩ := trodAll_nil r1
  obtain rfl : args = #[v0, v1] := by cases args; simp_all
  obtain ⟨tu0, rfl, ok0⟩ := open_tup (hval 0 28 v0 rfl rfl) h0 (fun n hn => by simpa using List.all_eq_true.1 hsz n (DataW.weights_mem_each (j := 0) rfl rfl n hn))
  obtain ⟨tu1, rfl, ok1⟩ := open_tup (hval 1 28 v1 rfl rfl) h1 (fun n hn => by simpa using List.all_eq_true.1 hsz n (DataW.weights_mem_each (j := 1) rfl rfl n hn))
  refine (tupleTwice_walk W tu0 ok0 tu1 ok1).mono fun e W' ⟨he, bel⟩ => ?_
  subst he
  exact ⟨_, rfl, law_post Try.underlying4 rfl laid_out (by kernel_rfl) rfl rfl hW' bel⟩
theorem proved : Rows.TupleTwiceSaid :=
  OpenClaim.holds_of_wide 5 Try.f5 rfl rfl rfl rfl rfl rfl rfl ⟨rfl, rfl, rfl, rfl, rfl⟩ rfl rfl rfl rfl rfl (by kernel_rfl) Try.func5 (by kernel_rfl)
    (of_decide_eq_true (by kernel_rfl)) (by unfold Func.isWrapper; first | (rw [if_pos (by decide +kernel)]; kernel_rfl) | (rw [if_neg (by decide +kernel)]; exact ⟨rfl, rfl⟩))
    (fun os started H enc _ => lifted os started H enc)
end Go.Proofs.Ythgoffbfgdgkpaa.tupleTwice
#print axioms Go.Proofs.Ythgoffbfgdgkpaa.tupleTwice.proved

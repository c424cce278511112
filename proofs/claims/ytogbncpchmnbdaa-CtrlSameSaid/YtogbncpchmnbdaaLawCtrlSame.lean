/- The Go law CtrlSame: for every input the call returns true and each argument reads as it did. No other condition. -/
import Derived.Test.YtogbncpchmnbdaaWalkC6
import Derived.Test.YtogbncpchmnbdaaOpen
import Derived.Test.YtogbncpchmnbdaaOpenPkt
import Derived.Test.YtogbncpchmnbdaaOpenMsg
namespace Go.Proofs.Ytogbncpchmnbdaa.ctrlSame
open Go.ChangeShapes Go.WideShapes Go.ChangeAt Go.RowKit
set_option linter.unusedVariables false
set_option maxRecDepth 100000 in
theorem lifted (os : Os) (started : os.Started) (H : Type) (enc : TypeId × Value → H) :
    ReturnsInHanded {} Try.checked os 5 .any (Rows.ctrlSameSpec.pre6 enc Try.prog Try.f5 Rows.ctrlSameRow.domain false) (Rows.ctrlSameSpec.post enc Try.prog Try.f5 false true false false) := by
  refine returnsInHanded_of_change_sized (C := Try.checked) own_knob started (by kernel_rfl) Try.func5
    (ChangeSpec.witness6 (enc := enc) (C := Try.checked) false ⟨#[], #[.agg #[.int .u8 0, .int .u8 0, .int .u32 0, .slice none 0 0], .agg #[.int .u8 0, .int .u8 0, .int .u32 0, .slice none 0 0], .agg #[.int .u16 0, .bool false, .bool false, .int .u32 0, .int .u32 0, .slice none 0 0, .int .u16 0, .bool false, .bool false, .int .u32 0, .int .u32 0, .slice none 0 0]], []⟩ 8 (by kernel_rfl) (by kernel_rfl) (by kernel_rfl) (by kernel_rfl)) ?_
  intro W base args ds gs before hval0 hW hcnd hsz0 hholds
  have hval : ∀ (j : Nat) t v, Try.f5.params[j]? = some t → args[j]? = some v → Value.okWide Try.prog W .any base t v := hval0
  have hW' := hW
  obtain ⟨p, q, hA0, hV, rfl, hfz, hnd⟩ := hW
  obtain ⟨rfl, rfl⟩ := trodVars_none hV
  have hA : DataW.TrodAll enc Try.prog W 0 (fun _ => true) true Try.f5.params.toList args.toList ds p := hA0
  have hsz : (DataW.weightsEach Try.prog [28, 28, 39] (ds ++ [])).all (· ≤ reachBytes) = true := hsz0
  simp only [List.append_nil] at hsz
  rw [Try.params5] at hA hval
  obtain ⟨v0, vs0, d0, ds0, p0, q0, hargs, rfl, rfl, h0, r0⟩ := trodAll_cons hA
  obtain ⟨v1, vs1, d1, ds1, p1, q1, rfl, rfl, rfl, h1, r1⟩ := trodAll_cons r0
  obtain ⟨v2, vs2, d2, ds2, p2, q2, rfl, rfl, rfl, h2, r2⟩ := trodAll_cons r1
  obtain ⟨rfl, rfl, rfl⟩ := trodAll_nil r2
  obtain rfl : args = #[v0, v1, v2] := by cases args; simp_all
  obtain ⟨ms0, A0, n0, c0, rfl, ok0, ka0, hm0⟩ := open_msg (hval 0 28 v0 rfl rfl) h0 (fun n hn => by simpa using List.all_eq_true.1 hsz n (DataW.weights_mem_each (j := 0) rfl rfl n hn))
  obtain ⟨ms1, A1, n1, c1, rfl, ok1, ka1, hm1⟩ := open_msg (hval 1 28 v1 rfl rfl) h1 (fun n hn => by simpa using List.all_eq_true.1 hsz n (DataW.weights_mem_each (j := 1) rfl rfl n hn))
  obtain ⟨fr2, A2, n2, c2, gr2, B2, m2, e2, rfl, ok2, ka2, hm2, og2, kb2, hn2⟩ := open_frm2 (hval 2 39 v2 rfl rfl) h2 (fun n hn => by simpa using List.all_eq_true.1 hsz n (DataW.weights_mem_each (j := 2) rfl rfl n hn))
  refine (ctrlSame_walk W ms0 ok0 A0 n0 c0 ka0 hm0 ms1 ok1 A1 n1 c1 ka1 hm1 fr2 ok2 A2 n2 c2 ka2 hm2 gr2 og2 B2 m2 e2 kb2 hn2).mono fun e W' ⟨he, bel⟩ => ?_
  subst he
  exact ⟨_, rfl, law_post Try.underlying4 rfl laid_out (by kernel_rfl) rfl rfl hW' bel⟩
theorem proved : Rows.CtrlSameSaid :=
  OpenClaim.holds_of_wide 5 Try.f5 rfl rfl rfl rfl rfl rfl rfl ⟨rfl, rfl, rfl, rfl, rfl⟩ rfl rfl rfl rfl rfl (by kernel_rfl) Try.func5 (by kernel_rfl)
    (of_decide_eq_true (by kernel_rfl)) (by unfold Func.isWrapper; first | (rw [if_pos (by decide +kernel)]; kernel_rfl) | (rw [if_neg (by decide +kernel)]; exact ⟨rfl, rfl⟩))
    (fun os started H enc _ => lifted os started H enc)
end Go.Proofs.Ytogbncpchmnbdaa.ctrlSame
#print axioms Go.Proofs.Ytogbncpchmnbdaa.ctrlSame.proved

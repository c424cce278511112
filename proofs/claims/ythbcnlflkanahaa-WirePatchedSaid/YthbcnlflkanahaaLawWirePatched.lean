/- The Go law WirePatched: for every input the call returns true and each argument reads as it did. No other condition. -/
import Derived.Test.YthbcnlflkanahaaWalkWire6
import Derived.Test.YthbcnlflkanahaaOpen
namespace Go.Proofs.Ythbcnlflkanahaa.wirePatched
open Go.ChangeShapes Go.WideShapes Go.ChangeAt Go.RowKit
set_option linter.unusedVariables false
set_option maxRecDepth 100000 in
theorem lifted (os : Os) (started : os.Started) (H : Type) (enc : TypeId × Value → H) :
    ReturnsInHanded {} Try.checked os 9 .any (Rows.wirePatchedSpec.pre6 enc Try.prog Try.f9 Rows.wirePatchedRow.domain false) (Rows.wirePatchedSpec.post enc Try.prog Try.f9 false true false false) := by
  refine returnsInHanded_of_change_sized (C := Try.checked) own_knob started (by kernel_rfl) Try.func9
    (ChangeSpec.witness6 (enc := enc) (C := Try.checked) false ⟨#[], #[.slice none 0 0, .agg #[.int .u16 0, .int .u16 0], .int .u16 0], []⟩ 8 (by kernel_rfl) (by kernel_rfl) (by kernel_rfl) (by kernel_rfl)) ?_
  intro W base args ds gs before hval0 hW hcnd hsz0 hholds
  have hval : ∀ (j : Nat) t v, Try.f9.params[j]? = some t → args[j]? = some v → Value.okWide Try.prog W .any base t v := hval0
  have hW' := hW
  obtain ⟨p, q, hA0, hV, rfl, hfz, hnd⟩ := hW
  obtain ⟨rfl, rfl⟩ := trodVars_none hV
  have hA : DataW.TrodAll enc Try.prog W 0 (fun _ => true) true Try.f9.params.toList args.toList ds p := hA0
  have hsz : (DataW.weightsEach Try.prog [26, 37, 28] (ds ++ [])).all (· ≤ reachBytes) = true := hsz0
  simp only [List.append_nil] at hsz
  rw [Try.params9] at hA hval
  obtain ⟨v0, vs0, d0, ds0, p0, q0, hargs, rfl, rfl, h0, r0⟩ := trodAll_cons hA
  obtain ⟨v1, vs1, d1, ds1, p1, q1, rfl, rfl, rfl, h1, r1⟩ := trodAll_cons r0
  obtain ⟨v2, vs2, d2, ds2, p2, q2, rfl, rfl, rfl, h2, r2⟩ := trodAll_cons r1
  obtain ⟨rfl, rfl, rfl⟩ := trodAll_nil r2
  obtain rfl : args = #[v0, v1, v2] := by cases args; simp_all
  obtain ⟨A0, n0, c0, rfl⟩ := okWide_slice Try.underlying26 (hval 0 26 v0 rfl rfl)
  obtain ⟨l0, hb0⟩ : ∃ l, Bs W A0 n0 c0 l := by
    obtain ⟨fuel, hf⟩ := h0
    obtain ⟨A, n, c, l, hv, hbs, hd⟩ := open_bs (v := .slice A0 n0 c0) Try.underlying26 Try.underlying5 (by kernel_rfl) (by simpa [Value.cells] using hf)
    injection hv with e1 e2 e3
    subst e1 e2 e3
    refine ⟨l, hbs ?_⟩
    rcases hd with ⟨_, hd⟩ | ⟨es, sp, hd, hn⟩
    · omega
    · have h1 := sized_slice hsz (j := 0) (t := 26) (e := 5) (elems := es) (spare := sp) rfl (by rw [← hd]; rfl) Try.underlying26
      have h2 : Try.prog.bytesOf 5 = 1 := by kernel_rfl
      rw [h2] at h1
      simp only [reachBytes] at h1
      omega
  obtain ⟨f1, rfl, w1⟩ := open_arr Try.underlying37 Try.underlying28 (by kernel_rfl) (by kernel_rfl) (hval 1 37 v1 rfl rfl) h1
  simp only [show List.range 2 = [0, 1] from rfl, List.map_cons, List.map_nil]
  have b1_0 : 0 ≤ f1 0 ∧ f1 0 ≤ 65535 := by simpa [Lit.wf, IntKind.min, IntKind.max, IntKind.signed, IntKind.bits] using w1 0 (by omega)
  have b1_1 : 0 ≤ f1 1 ∧ f1 1 ≤ 65535 := by simpa [Lit.wf, IntKind.min, IntKind.max, IntKind.signed, IntKind.bits] using w1 1 (by omega)
  obtain ⟨a2, rfl, rfl, rfl, w2⟩ := open_int Try.underlying28 (hval 2 28 v2 rfl rfl) h2
  have b2 : 0 ≤ a2 ∧ a2 ≤ 65535 := by simpa [Lit.wf, IntKind.min, IntKind.max, IntKind.signed, IntKind.bits] using w2
  refine (wirePatched_walk W A0 n0 c0 l0 hb0 (f1 0) b1_0.1 b1_0.2 (f1 1) b1_1.1 b1_1.2 a2 b2.1 b2.2).mono fun e W' ⟨he, bel⟩ => ?_
  subst he
  exact ⟨_, rfl, law_post Try.underlying4 rfl laid_out (by kernel_rfl) rfl rfl hW' bel⟩
theorem proved : Rows.WirePatchedSaid :=
  OpenClaim.holds_of_wide 9 Try.f9 rfl rfl rfl rfl rfl rfl rfl ⟨rfl, rfl, rfl, rfl, rfl⟩ rfl rfl rfl rfl rfl (by kernel_rfl) Try.func9 (by kernel_rfl)
    (of_decide_eq_true (by kernel_rfl)) (by unfold Func.isWrapper; first | (rw [if_pos (by decide +kernel)]; kernel_rfl) | (rw [if_neg (by decide +kernel)]; exact ⟨rfl, rfl⟩))
    (fun os started H enc _ => lifted os started H enc)
end Go.Proofs.Ythbcnlflkanahaa.wirePatched
#print axioms Go.Proofs.Ythbcnlflkanahaa.wirePatched.proved

/-
  No cell of these rows narrows 'for every input' (looked for: loops, veiled, ifaces, maps, wideKeys, modest, calm, conditions, laid).
  DERIVED. THE GIVEN ROWS OF THIS SEAT. 11 by the template 'for every input the law returns true; each argument reads behind the call as it read before'; 0 by the template 'total and deterministic' (their statements: YtogbncpchmnbdaaTotals.lean).
  GIVEN WITH THE SEED: the statements are not yours to turn. If you find one false, say at which input.
  Laid BY PROGRAM, IN A SANDBOX (cutbox-rows.mjs): the forced cells as the released guide's own fill.sh prints them over the translation a84f2caed47e1b44… (all of the seat's roots in one cut). By AI agents, Wed Nov 11 2026. No macro, syntax, notation, axiom, sorry.
-/
import Derived.Test.YtogbncpchmnbdaaChecked
import GoSem.Claim
import GoSem.ClaimJoined
import GoSem.ClaimMapViews
import Derived.JoinedTies
import Derived.KernelRfl
namespace Go.Proofs.Ytogbncpchmnbdaa
/- THE CELL 'sum', in the pinned program and in every row, IS THE sha256 OF THE DUMP (.gsa) THAT YtogbncpchmnbdaaProg.lean LOADS. Nothing in Lean hashes anything: it is a label: what it is worth is what the hold of that sum in a sandbox is worth. -/
noncomputable def Try.pinned : Pinned := { name := "ytogbncpchmnbdaa", sum := "a84f2caed47e1b4460c97f64734e48c694a0e66aa79d0f82ade26ceea88e60bc", checked := Try.checked }
namespace Rows
def none {H : Type} : Left H := { results := [], args := [] }

/-- 'lychgatelaw04.CtrlBuilds': WHATEVER THE INPUT: true; the input reads as it did. -/
def ctrlBuildsSpec : ChangeSpec := { name := "ctrlBuilds", fn := fun _ => fun
  | [d1, d2, d3] => { results := [.lit (.bool true)], args := [d1, d2, d3] }
  | _ => none }
def ctrlBuildsRow : OpenClaim := { program := "ytogbncpchmnbdaa", sum := "a84f2caed47e1b4460c97f64734e48c694a0e66aa79d0f82ade26ceea88e60bc", func := "lychgate/lychgatelaw04.CtrlBuilds", spec := "ctrlBuilds", unfollowed := true, recurses := true, apart := false }
def CtrlBuildsSaid : Prop := ctrlBuildsRow.holds Try.pinned (OpenSpec.ofChange ctrlBuildsSpec)

/-- ITS FALSE NEIGHBOUR: 'it returns false'. Refute it at one input. -/
def ctrlBuildsWrong : ChangeSpec := { name := "ctrlBuilds", fn := fun _ => fun
  | [d1, d2, d3] => { results := [.lit (.bool false)], args := [d1, d2, d3] }
  | _ => none }
def CtrlBuildsWrongFalsely : Prop := ctrlBuildsRow.holds Try.pinned (OpenSpec.ofChange ctrlBuildsWrong)

/-- 'lychgatelaw04.CtrlSizes': WHATEVER THE INPUT: true; the input reads as it did. -/
def ctrlSizesSpec : ChangeSpec := { name := "ctrlSizes", fn := fun _ => fun
  | [d1, d2] => { results := [.lit (.bool true)], args := [d1, d2] }
  | _ => none }
def ctrlSizesRow : OpenClaim := { program := "ytogbncpchmnbdaa", sum := "a84f2caed47e1b4460c97f64734e48c694a0e66aa79d0f82ade26ceea88e60bc", func := "lychgate/lychgatelaw04.CtrlSizes", spec := "ctrlSizes", unfollowed := true, recurses := true, apart := false }
def CtrlSizesSaid : Prop := ctrlSizesRow.holds Try.pinned (OpenSpec.ofChange ctrlSizesSpec)

/-- ITS FALSE NEIGHBOUR: 'it returns false'. Refute it at one input. -/
def ctrlSizesWrong : ChangeSpec := { name := "ctrlSizes", fn := fun _ => fun
  | [d1, d2] => { results := [.lit (.bool false)], args := [d1, d2] }
  | _ => none }
def CtrlSizesWrongFalsely : Prop := ctrlSizesRow.holds Try.pinned (OpenSpec.ofChange ctrlSizesWrong)

/-- 'lychgatelaw04.CtrlSame': WHATEVER THE INPUT: true; the input reads as it did. -/
def ctrlSameSpec : ChangeSpec := { name := "ctrlSame", fn := fun _ => fun
  | [d1, d2, d3] => { results := [.lit (.bool true)], args := [d1, d2, d3] }
  | _ => none }
def ctrlSameRow : OpenClaim := { program := "ytogbncpchmnbdaa", sum := "a84f2caed47e1b4460c97f64734e48c694a0e66aa79d0f82ade26ceea88e60bc", func := "lychgate/lychgatelaw04.CtrlSame", spec := "ctrlSame", unfollowed := true, recurses := true, apart := false }
def CtrlSameSaid : Prop := ctrlSameRow.holds Try.pinned (OpenSpec.ofChange ctrlSameSpec)

/-- ITS FALSE NEIGHBOUR: 'it returns false'. Refute it at one input. -/
def ctrlSameWrong : ChangeSpec := { name := "ctrlSame", fn := fun _ => fun
  | [d1, d2, d3] => { results := [.lit (.bool false)], args := [d1, d2, d3] }
  | _ => none }
def CtrlSameWrongFalsely : Prop := ctrlSameRow.holds Try.pinned (OpenSpec.ofChange ctrlSameWrong)

/-- 'lychgatelaw04.CtrlKinds': WHATEVER THE INPUT: true; the input reads as it did. -/
def ctrlKindsSpec : ChangeSpec := { name := "ctrlKinds", fn := fun _ => fun
  | [d] => { results := [.lit (.bool true)], args := [d] }
  | _ => none }
def ctrlKindsRow : OpenClaim := { program := "ytogbncpchmnbdaa", sum := "a84f2caed47e1b4460c97f64734e48c694a0e66aa79d0f82ade26ceea88e60bc", func := "lychgate/lychgatelaw04.CtrlKinds", spec := "ctrlKinds", unfollowed := true, recurses := true, apart := false }
def CtrlKindsSaid : Prop := ctrlKindsRow.holds Try.pinned (OpenSpec.ofChange ctrlKindsSpec)

/-- ITS FALSE NEIGHBOUR: 'it returns false'. Refute it at one input. -/
def ctrlKindsWrong : ChangeSpec := { name := "ctrlKinds", fn := fun _ => fun
  | [d] => { results := [.lit (.bool false)], args := [d] }
  | _ => none }
def CtrlKindsWrongFalsely : Prop := ctrlKindsRow.holds Try.pinned (OpenSpec.ofChange ctrlKindsWrong)

/-- 'lychgatelaw04.CtrlIcmp': WHATEVER THE INPUT: true; the input reads as it did. -/
def ctrlIcmpSpec : ChangeSpec := { name := "ctrlIcmp", fn := fun _ => fun
  | [d] => { results := [.lit (.bool true)], args := [d] }
  | _ => none }
def ctrlIcmpRow : OpenClaim := { program := "ytogbncpchmnbdaa", sum := "a84f2caed47e1b4460c97f64734e48c694a0e66aa79d0f82ade26ceea88e60bc", func := "lychgate/lychgatelaw04.CtrlIcmp", spec := "ctrlIcmp", unfollowed := true, recurses := true, apart := false }
def CtrlIcmpSaid : Prop := ctrlIcmpRow.holds Try.pinned (OpenSpec.ofChange ctrlIcmpSpec)

/-- ITS FALSE NEIGHBOUR: 'it returns false'. Refute it at one input. -/
def ctrlIcmpWrong : ChangeSpec := { name := "ctrlIcmp", fn := fun _ => fun
  | [d] => { results := [.lit (.bool false)], args := [d] }
  | _ => none }
def CtrlIcmpWrongFalsely : Prop := ctrlIcmpRow.holds Try.pinned (OpenSpec.ofChange ctrlIcmpWrong)

/-- 'lychgatelaw04.CtrlFlips': WHATEVER THE INPUT: true; the input reads as it did. -/
def ctrlFlipsSpec : ChangeSpec := { name := "ctrlFlips", fn := fun _ => fun
  | [d1, d2, d3] => { results := [.lit (.bool true)], args := [d1, d2, d3] }
  | _ => none }
def ctrlFlipsRow : OpenClaim := { program := "ytogbncpchmnbdaa", sum := "a84f2caed47e1b4460c97f64734e48c694a0e66aa79d0f82ade26ceea88e60bc", func := "lychgate/lychgatelaw04.CtrlFlips", spec := "ctrlFlips", unfollowed := true, recurses := true, apart := false }
def CtrlFlipsSaid : Prop := ctrlFlipsRow.holds Try.pinned (OpenSpec.ofChange ctrlFlipsSpec)

/-- ITS FALSE NEIGHBOUR: 'it returns false'. Refute it at one input. -/
def ctrlFlipsWrong : ChangeSpec := { name := "ctrlFlips", fn := fun _ => fun
  | [d1, d2, d3] => { results := [.lit (.bool false)], args := [d1, d2, d3] }
  | _ => none }
def CtrlFlipsWrongFalsely : Prop := ctrlFlipsRow.holds Try.pinned (OpenSpec.ofChange ctrlFlipsWrong)

/-- 'lychgatelaw04.CtrlGre': WHATEVER THE INPUT: true; the input reads as it did. -/
def ctrlGreSpec : ChangeSpec := { name := "ctrlGre", fn := fun _ => fun
  | [d] => { results := [.lit (.bool true)], args := [d] }
  | _ => none }
def ctrlGreRow : OpenClaim := { program := "ytogbncpchmnbdaa", sum := "a84f2caed47e1b4460c97f64734e48c694a0e66aa79d0f82ade26ceea88e60bc", func := "lychgate/lychgatelaw04.CtrlGre", spec := "ctrlGre", unfollowed := true, recurses := true, apart := false }
def CtrlGreSaid : Prop := ctrlGreRow.holds Try.pinned (OpenSpec.ofChange ctrlGreSpec)

/-- ITS FALSE NEIGHBOUR: 'it returns false'. Refute it at one input. -/
def ctrlGreWrong : ChangeSpec := { name := "ctrlGre", fn := fun _ => fun
  | [d] => { results := [.lit (.bool false)], args := [d] }
  | _ => none }
def CtrlGreWrongFalsely : Prop := ctrlGreRow.holds Try.pinned (OpenSpec.ofChange ctrlGreWrong)

/-- 'lychgatelaw04.CtrlCuts': WHATEVER THE INPUT: true; the input reads as it did. -/
def ctrlCutsSpec : ChangeSpec := { name := "ctrlCuts", fn := fun _ => fun
  | [d1, d2, d3] => { results := [.lit (.bool true)], args := [d1, d2, d3] }
  | _ => none }
def ctrlCutsRow : OpenClaim := { program := "ytogbncpchmnbdaa", sum := "a84f2caed47e1b4460c97f64734e48c694a0e66aa79d0f82ade26ceea88e60bc", func := "lychgate/lychgatelaw04.CtrlCuts", spec := "ctrlCuts", unfollowed := true, recurses := true, apart := false }
def CtrlCutsSaid : Prop := ctrlCutsRow.holds Try.pinned (OpenSpec.ofChange ctrlCutsSpec)

/-- ITS FALSE NEIGHBOUR: 'it returns false'. Refute it at one input. -/
def ctrlCutsWrong : ChangeSpec := { name := "ctrlCuts", fn := fun _ => fun
  | [d1, d2, d3] => { results := [.lit (.bool false)], args := [d1, d2, d3] }
  | _ => none }
def CtrlCutsWrongFalsely : Prop := ctrlCutsRow.holds Try.pinned (OpenSpec.ofChange ctrlCutsWrong)

/-- 'lychgatelaw04.CtrlBack': WHATEVER THE INPUT: true; the input reads as it did. -/
def ctrlBackSpec : ChangeSpec := { name := "ctrlBack", fn := fun _ => fun
  | [d1, d2, d3] => { results := [.lit (.bool true)], args := [d1, d2, d3] }
  | _ => none }
def ctrlBackRow : OpenClaim := { program := "ytogbncpchmnbdaa", sum := "a84f2caed47e1b4460c97f64734e48c694a0e66aa79d0f82ade26ceea88e60bc", func := "lychgate/lychgatelaw04.CtrlBack", spec := "ctrlBack", unfollowed := true, recurses := true, apart := false }
def CtrlBackSaid : Prop := ctrlBackRow.holds Try.pinned (OpenSpec.ofChange ctrlBackSpec)

/-- ITS FALSE NEIGHBOUR: 'it returns false'. Refute it at one input. -/
def ctrlBackWrong : ChangeSpec := { name := "ctrlBack", fn := fun _ => fun
  | [d1, d2, d3] => { results := [.lit (.bool false)], args := [d1, d2, d3] }
  | _ => none }
def CtrlBackWrongFalsely : Prop := ctrlBackRow.holds Try.pinned (OpenSpec.ofChange ctrlBackWrong)

/-- 'lychgatelaw04.CtrlOthers': WHATEVER THE INPUT: true; the input reads as it did. -/
def ctrlOthersSpec : ChangeSpec := { name := "ctrlOthers", fn := fun _ => fun
  | [d1, d2] => { results := [.lit (.bool true)], args := [d1, d2] }
  | _ => none }
def ctrlOthersRow : OpenClaim := { program := "ytogbncpchmnbdaa", sum := "a84f2caed47e1b4460c97f64734e48c694a0e66aa79d0f82ade26ceea88e60bc", func := "lychgate/lychgatelaw04.CtrlOthers", spec := "ctrlOthers", unfollowed := true, recurses := true, apart := false }
def CtrlOthersSaid : Prop := ctrlOthersRow.holds Try.pinned (OpenSpec.ofChange ctrlOthersSpec)

/-- ITS FALSE NEIGHBOUR: 'it returns false'. Refute it at one input. -/
def ctrlOthersWrong : ChangeSpec := { name := "ctrlOthers", fn := fun _ => fun
  | [d1, d2] => { results := [.lit (.bool false)], args := [d1, d2] }
  | _ => none }
def CtrlOthersWrongFalsely : Prop := ctrlOthersRow.holds Try.pinned (OpenSpec.ofChange ctrlOthersWrong)

/-- 'lychgatetop.TopQuotes': WHATEVER THE INPUT: true; the input reads as it did. -/
def topQuotesSpec : ChangeSpec := { name := "topQuotes", fn := fun _ => fun
  | [d1, d2] => { results := [.lit (.bool true)], args := [d1, d2] }
  | _ => none }
def topQuotesRow : OpenClaim := { program := "ytogbncpchmnbdaa", sum := "a84f2caed47e1b4460c97f64734e48c694a0e66aa79d0f82ade26ceea88e60bc", func := "lychgate/lychgatetop.TopQuotes", spec := "topQuotes", unfollowed := true, recurses := true, apart := false }
def TopQuotesSaid : Prop := topQuotesRow.holds Try.pinned (OpenSpec.ofChange topQuotesSpec)

/-- ITS FALSE NEIGHBOUR: 'it returns false'. Refute it at one input. -/
def topQuotesWrong : ChangeSpec := { name := "topQuotes", fn := fun _ => fun
  | [d1, d2] => { results := [.lit (.bool false)], args := [d1, d2] }
  | _ => none }
def TopQuotesWrongFalsely : Prop := topQuotesRow.holds Try.pinned (OpenSpec.ofChange topQuotesWrong)

/- THE SECOND FORM. 'bulk': how many values and letters a reading holds, each counted each time it is reached (what is shared counts as often as it is met; a slice's spare places count too). A statement '..UptoSaid' is the law's where the arguments, and the package variables that the reading takes, are together of bulk at most 1048576: NARROWER than '..Said'. Prove '..Said' where nothing that the law and all that it calls make is longer than what came in: it says more and counts as full. Else prove '..UptoSaid'. A law counts once. -/
mutual
def uptoBulk {H : Type} : DataW H → Nat
  | .lit (.string bytes) => bytes.length + 1
  | .lit _ => 1
  | .nil => 1
  | .ptr d => uptoBulk d + 1
  | .slice elems spare => uptoBulkAll elems + uptoBulkAll spare + 1
  | .agg parts => uptoBulkAll parts + 1
  | .iface _ d => uptoBulk d + 1
  | .map entries => uptoBulkEntries entries + 1
  | .held _ => 1
def uptoBulkAll {H : Type} : List (DataW H) → Nat
  | [] => 0
  | d :: r => uptoBulk d + uptoBulkAll r
def uptoBulkEntries {H : Type} : List (Lit × DataW H) → Nat
  | [] => 0
  | x :: r => uptoBulkEntry x + uptoBulkEntries r
def uptoBulkEntry {H : Type} : Lit × DataW H → Nat
  | (.string bytes, d) => bytes.length + uptoBulk d + 1
  | (_, d) => uptoBulk d + 1
 end
def uptoSmall : (H : Type) → List (DataW H) → Bool := fun _ ds => decide (uptoBulkAll ds ≤ 1048576)
def OpenSpec.upto (s : _root_.Go.ChangeSpec) : _root_.Go.OpenSpec := { _root_.Go.OpenSpec.ofChange s with cond := some uptoSmall }

/-- 'lychgatelaw04.CtrlBuilds', WHERE WHAT IT READS IS OF BULK AT MOST 1048576: true; the input reads as it did. -/
def ctrlBuildsUptoRow : OpenClaim := { program := "ytogbncpchmnbdaa", sum := "a84f2caed47e1b4460c97f64734e48c694a0e66aa79d0f82ade26ceea88e60bc", func := "lychgate/lychgatelaw04.CtrlBuilds", spec := "ctrlBuilds", unfollowed := true, recurses := true, apart := false, narrowed := true }
def CtrlBuildsUptoSaid : Prop := ctrlBuildsUptoRow.holds Try.pinned (OpenSpec.upto ctrlBuildsSpec)

/-- 'lychgatelaw04.CtrlSizes', WHERE WHAT IT READS IS OF BULK AT MOST 1048576: true; the input reads as it did. -/
def ctrlSizesUptoRow : OpenClaim := { program := "ytogbncpchmnbdaa", sum := "a84f2caed47e1b4460c97f64734e48c694a0e66aa79d0f82ade26ceea88e60bc", func := "lychgate/lychgatelaw04.CtrlSizes", spec := "ctrlSizes", unfollowed := true, recurses := true, apart := false, narrowed := true }
def CtrlSizesUptoSaid : Prop := ctrlSizesUptoRow.holds Try.pinned (OpenSpec.upto ctrlSizesSpec)

/-- 'lychgatelaw04.CtrlSame', WHERE WHAT IT READS IS OF BULK AT MOST 1048576: true; the input reads as it did. -/
def ctrlSameUptoRow : OpenClaim := { program := "ytogbncpchmnbdaa", sum := "a84f2caed47e1b4460c97f64734e48c694a0e66aa79d0f82ade26ceea88e60bc", func := "lychgate/lychgatelaw04.CtrlSame", spec := "ctrlSame", unfollowed := true, recurses := true, apart := false, narrowed := true }
def CtrlSameUptoSaid : Prop := ctrlSameUptoRow.holds Try.pinned (OpenSpec.upto ctrlSameSpec)

/-- 'lychgatelaw04.CtrlKinds', WHERE WHAT IT READS IS OF BULK AT MOST 1048576: true; the input reads as it did. -/
def ctrlKindsUptoRow : OpenClaim := { program := "ytogbncpchmnbdaa", sum := "a84f2caed47e1b4460c97f64734e48c694a0e66aa79d0f82ade26ceea88e60bc", func := "lychgate/lychgatelaw04.CtrlKinds", spec := "ctrlKinds", unfollowed := true, recurses := true, apart := false, narrowed := true }
def CtrlKindsUptoSaid : Prop := ctrlKindsUptoRow.holds Try.pinned (OpenSpec.upto ctrlKindsSpec)

/-- 'lychgatelaw04.CtrlIcmp', WHERE WHAT IT READS IS OF BULK AT MOST 1048576: true; the input reads as it did. -/
def ctrlIcmpUptoRow : OpenClaim := { program := "ytogbncpchmnbdaa", sum := "a84f2caed47e1b4460c97f64734e48c694a0e66aa79d0f82ade26ceea88e60bc", func := "lychgate/lychgatelaw04.CtrlIcmp", spec := "ctrlIcmp", unfollowed := true, recurses := true, apart := false, narrowed := true }
def CtrlIcmpUptoSaid : Prop := ctrlIcmpUptoRow.holds Try.pinned (OpenSpec.upto ctrlIcmpSpec)

/-- 'lychgatelaw04.CtrlFlips', WHERE WHAT IT READS IS OF BULK AT MOST 1048576: true; the input reads as it did. -/
def ctrlFlipsUptoRow : OpenClaim := { program := "ytogbncpchmnbdaa", sum := "a84f2caed47e1b4460c97f64734e48c694a0e66aa79d0f82ade26ceea88e60bc", func := "lychgate/lychgatelaw04.CtrlFlips", spec := "ctrlFlips", unfollowed := true, recurses := true, apart := false, narrowed := true }
def CtrlFlipsUptoSaid : Prop := ctrlFlipsUptoRow.holds Try.pinned (OpenSpec.upto ctrlFlipsSpec)

/-- 'lychgatelaw04.CtrlGre', WHERE WHAT IT READS IS OF BULK AT MOST 1048576: true; the input reads as it did. -/
def ctrlGreUptoRow : OpenClaim := { program := "ytogbncpchmnbdaa", sum := "a84f2caed47e1b4460c97f64734e48c694a0e66aa79d0f82ade26ceea88e60bc", func := "lychgate/lychgatelaw04.CtrlGre", spec := "ctrlGre", unfollowed := true, recurses := true, apart := false, narrowed := true }
def CtrlGreUptoSaid : Prop := ctrlGreUptoRow.holds Try.pinned (OpenSpec.upto ctrlGreSpec)

/-- 'lychgatelaw04.CtrlCuts', WHERE WHAT IT READS IS OF BULK AT MOST 1048576: true; the input reads as it did. -/
def ctrlCutsUptoRow : OpenClaim := { program := "ytogbncpchmnbdaa", sum := "a84f2caed47e1b4460c97f64734e48c694a0e66aa79d0f82ade26ceea88e60bc", func := "lychgate/lychgatelaw04.CtrlCuts", spec := "ctrlCuts", unfollowed := true, recurses := true, apart := false, narrowed := true }
def CtrlCutsUptoSaid : Prop := ctrlCutsUptoRow.holds Try.pinned (OpenSpec.upto ctrlCutsSpec)

/-- 'lychgatelaw04.CtrlBack', WHERE WHAT IT READS IS OF BULK AT MOST 1048576: true; the input reads as it did. -/
def ctrlBackUptoRow : OpenClaim := { program := "ytogbncpchmnbdaa", sum := "a84f2caed47e1b4460c97f64734e48c694a0e66aa79d0f82ade26ceea88e60bc", func := "lychgate/lychgatelaw04.CtrlBack", spec := "ctrlBack", unfollowed := true, recurses := true, apart := false, narrowed := true }
def CtrlBackUptoSaid : Prop := ctrlBackUptoRow.holds Try.pinned (OpenSpec.upto ctrlBackSpec)

/-- 'lychgatelaw04.CtrlOthers', WHERE WHAT IT READS IS OF BULK AT MOST 1048576: true; the input reads as it did. -/
def ctrlOthersUptoRow : OpenClaim := { program := "ytogbncpchmnbdaa", sum := "a84f2caed47e1b4460c97f64734e48c694a0e66aa79d0f82ade26ceea88e60bc", func := "lychgate/lychgatelaw04.CtrlOthers", spec := "ctrlOthers", unfollowed := true, recurses := true, apart := false, narrowed := true }
def CtrlOthersUptoSaid : Prop := ctrlOthersUptoRow.holds Try.pinned (OpenSpec.upto ctrlOthersSpec)

/-- 'lychgatetop.TopQuotes', WHERE WHAT IT READS IS OF BULK AT MOST 1048576: true; the input reads as it did. -/
def topQuotesUptoRow : OpenClaim := { program := "ytogbncpchmnbdaa", sum := "a84f2caed47e1b4460c97f64734e48c694a0e66aa79d0f82ade26ceea88e60bc", func := "lychgate/lychgatetop.TopQuotes", spec := "topQuotes", unfollowed := true, recurses := true, apart := false, narrowed := true }
def TopQuotesUptoSaid : Prop := topQuotesUptoRow.holds Try.pinned (OpenSpec.upto topQuotesSpec)

end Rows
end Go.Proofs.Ytogbncpchmnbdaa

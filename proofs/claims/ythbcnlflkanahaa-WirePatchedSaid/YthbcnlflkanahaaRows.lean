/-
  No cell of these rows narrows 'for every input' (looked for: loops, veiled, ifaces, maps, wideKeys, modest, calm, conditions, laid).
  DERIVED. THE GIVEN ROWS OF THIS SEAT. 10 by the template 'for every input the law returns true; each argument reads behind the call as it read before'; 0 by the template 'total and deterministic' (their statements: YthbcnlflkanahaaTotals.lean).
  GIVEN WITH THE SEED: the statements are not yours to turn. If you find one false, say at which input.
  Laid BY PROGRAM, IN A SANDBOX (cutbox-rows.mjs): the forced cells as the released guide's own fill.sh prints them over the translation ae231833d3ccaf93… (all of the seat's roots in one cut). By AI agents, Wed Nov 11 2026. No macro, syntax, notation, axiom, sorry.
-/
import Derived.Test.YthbcnlflkanahaaChecked
import GoSem.Claim
import GoSem.ClaimJoined
import GoSem.ClaimMapViews
import Derived.JoinedTies
import Derived.KernelRfl
namespace Go.Proofs.Ythbcnlflkanahaa
/- THE CELL 'sum', in the pinned program and in every row, IS THE sha256 OF THE DUMP (.gsa) THAT YthbcnlflkanahaaProg.lean LOADS. Nothing in Lean hashes anything: it is a label: what it is worth is what the hold of that sum in a sandbox is worth. -/
noncomputable def Try.pinned : Pinned := { name := "ythbcnlflkanahaa", sum := "ae231833d3ccaf93fd2ac6c1d0a6e2bca5c1d7d050afb11e11e68c8587daaf21", checked := Try.checked }
namespace Rows
def none {H : Type} : Left H := { results := [], args := [] }

/-- 'lychgatelaw01.WireAhead': WHATEVER THE INPUT: true; the input reads as it did. -/
def wireAheadSpec : ChangeSpec := { name := "wireAhead", fn := fun _ => fun
  | [d1, d2] => { results := [.lit (.bool true)], args := [d1, d2] }
  | _ => none }
def wireAheadRow : OpenClaim := { program := "ythbcnlflkanahaa", sum := "ae231833d3ccaf93fd2ac6c1d0a6e2bca5c1d7d050afb11e11e68c8587daaf21", func := "lychgate/lychgatelaw01.WireAhead", spec := "wireAhead", unfollowed := true, recurses := true, apart := false }
def WireAheadSaid : Prop := wireAheadRow.holds Try.pinned (OpenSpec.ofChange wireAheadSpec)

/-- ITS FALSE NEIGHBOUR: 'it returns false'. Refute it at one input. -/
def wireAheadWrong : ChangeSpec := { name := "wireAhead", fn := fun _ => fun
  | [d1, d2] => { results := [.lit (.bool false)], args := [d1, d2] }
  | _ => none }
def WireAheadWrongFalsely : Prop := wireAheadRow.holds Try.pinned (OpenSpec.ofChange wireAheadWrong)

/-- 'lychgatelaw01.WireOrder': WHATEVER THE INPUT: true; the input reads as it did. -/
def wireOrderSpec : ChangeSpec := { name := "wireOrder", fn := fun _ => fun
  | [d1, d2] => { results := [.lit (.bool true)], args := [d1, d2] }
  | _ => none }
def wireOrderRow : OpenClaim := { program := "ythbcnlflkanahaa", sum := "ae231833d3ccaf93fd2ac6c1d0a6e2bca5c1d7d050afb11e11e68c8587daaf21", func := "lychgate/lychgatelaw01.WireOrder", spec := "wireOrder", unfollowed := true, recurses := true, apart := false }
def WireOrderSaid : Prop := wireOrderRow.holds Try.pinned (OpenSpec.ofChange wireOrderSpec)

/-- ITS FALSE NEIGHBOUR: 'it returns false'. Refute it at one input. -/
def wireOrderWrong : ChangeSpec := { name := "wireOrder", fn := fun _ => fun
  | [d1, d2] => { results := [.lit (.bool false)], args := [d1, d2] }
  | _ => none }
def WireOrderWrongFalsely : Prop := wireOrderRow.holds Try.pinned (OpenSpec.ofChange wireOrderWrong)

/-- 'lychgatelaw01.WireZeros': WHATEVER THE INPUT: true; the input reads as it did. -/
def wireZerosSpec : ChangeSpec := { name := "wireZeros", fn := fun _ => fun
  | [d1, d2] => { results := [.lit (.bool true)], args := [d1, d2] }
  | _ => none }
def wireZerosRow : OpenClaim := { program := "ythbcnlflkanahaa", sum := "ae231833d3ccaf93fd2ac6c1d0a6e2bca5c1d7d050afb11e11e68c8587daaf21", func := "lychgate/lychgatelaw01.WireZeros", spec := "wireZeros", unfollowed := true, recurses := true, apart := false }
def WireZerosSaid : Prop := wireZerosRow.holds Try.pinned (OpenSpec.ofChange wireZerosSpec)

/-- ITS FALSE NEIGHBOUR: 'it returns false'. Refute it at one input. -/
def wireZerosWrong : ChangeSpec := { name := "wireZeros", fn := fun _ => fun
  | [d1, d2] => { results := [.lit (.bool false)], args := [d1, d2] }
  | _ => none }
def WireZerosWrongFalsely : Prop := wireZerosRow.holds Try.pinned (OpenSpec.ofChange wireZerosWrong)

/-- 'lychgatelaw01.WireSums': WHATEVER THE INPUT: true; the input reads as it did. -/
def wireSumsSpec : ChangeSpec := { name := "wireSums", fn := fun _ => fun
  | [d] => { results := [.lit (.bool true)], args := [d] }
  | _ => none }
def wireSumsRow : OpenClaim := { program := "ythbcnlflkanahaa", sum := "ae231833d3ccaf93fd2ac6c1d0a6e2bca5c1d7d050afb11e11e68c8587daaf21", func := "lychgate/lychgatelaw01.WireSums", spec := "wireSums", unfollowed := true, recurses := true, apart := false }
def WireSumsSaid : Prop := wireSumsRow.holds Try.pinned (OpenSpec.ofChange wireSumsSpec)

/-- ITS FALSE NEIGHBOUR: 'it returns false'. Refute it at one input. -/
def wireSumsWrong : ChangeSpec := { name := "wireSums", fn := fun _ => fun
  | [d] => { results := [.lit (.bool false)], args := [d] }
  | _ => none }
def WireSumsWrongFalsely : Prop := wireSumsRow.holds Try.pinned (OpenSpec.ofChange wireSumsWrong)

/-- 'lychgatelaw01.WirePatches': WHATEVER THE INPUT: true; the input reads as it did. -/
def wirePatchesSpec : ChangeSpec := { name := "wirePatches", fn := fun _ => fun
  | [d1, d2, d3] => { results := [.lit (.bool true)], args := [d1, d2, d3] }
  | _ => none }
def wirePatchesRow : OpenClaim := { program := "ythbcnlflkanahaa", sum := "ae231833d3ccaf93fd2ac6c1d0a6e2bca5c1d7d050afb11e11e68c8587daaf21", func := "lychgate/lychgatelaw01.WirePatches", spec := "wirePatches", unfollowed := true, recurses := true, apart := false }
def WirePatchesSaid : Prop := wirePatchesRow.holds Try.pinned (OpenSpec.ofChange wirePatchesSpec)

/-- ITS FALSE NEIGHBOUR: 'it returns false'. Refute it at one input. -/
def wirePatchesWrong : ChangeSpec := { name := "wirePatches", fn := fun _ => fun
  | [d1, d2, d3] => { results := [.lit (.bool false)], args := [d1, d2, d3] }
  | _ => none }
def WirePatchesWrongFalsely : Prop := wirePatchesRow.holds Try.pinned (OpenSpec.ofChange wirePatchesWrong)

/-- 'lychgatelaw01.WireGood': WHATEVER THE INPUT: true; the input reads as it did. -/
def wireGoodSpec : ChangeSpec := { name := "wireGood", fn := fun _ => fun
  | [d1, d2] => { results := [.lit (.bool true)], args := [d1, d2] }
  | _ => none }
def wireGoodRow : OpenClaim := { program := "ythbcnlflkanahaa", sum := "ae231833d3ccaf93fd2ac6c1d0a6e2bca5c1d7d050afb11e11e68c8587daaf21", func := "lychgate/lychgatelaw01.WireGood", spec := "wireGood", unfollowed := true, recurses := true, apart := false }
def WireGoodSaid : Prop := wireGoodRow.holds Try.pinned (OpenSpec.ofChange wireGoodSpec)

/-- ITS FALSE NEIGHBOUR: 'it returns false'. Refute it at one input. -/
def wireGoodWrong : ChangeSpec := { name := "wireGood", fn := fun _ => fun
  | [d1, d2] => { results := [.lit (.bool false)], args := [d1, d2] }
  | _ => none }
def WireGoodWrongFalsely : Prop := wireGoodRow.holds Try.pinned (OpenSpec.ofChange wireGoodWrong)

/-- 'lychgatelaw01.WirePatched': WHATEVER THE INPUT: true; the input reads as it did. -/
def wirePatchedSpec : ChangeSpec := { name := "wirePatched", fn := fun _ => fun
  | [d1, d2, d3] => { results := [.lit (.bool true)], args := [d1, d2, d3] }
  | _ => none }
def wirePatchedRow : OpenClaim := { program := "ythbcnlflkanahaa", sum := "ae231833d3ccaf93fd2ac6c1d0a6e2bca5c1d7d050afb11e11e68c8587daaf21", func := "lychgate/lychgatelaw01.WirePatched", spec := "wirePatched", unfollowed := true, recurses := true, apart := false }
def WirePatchedSaid : Prop := wirePatchedRow.holds Try.pinned (OpenSpec.ofChange wirePatchedSpec)

/-- ITS FALSE NEIGHBOUR: 'it returns false'. Refute it at one input. -/
def wirePatchedWrong : ChangeSpec := { name := "wirePatched", fn := fun _ => fun
  | [d1, d2, d3] => { results := [.lit (.bool false)], args := [d1, d2, d3] }
  | _ => none }
def WirePatchedWrongFalsely : Prop := wirePatchedRow.holds Try.pinned (OpenSpec.ofChange wirePatchedWrong)

/-- 'lychgatelaw01.WireBack': WHATEVER THE INPUT: true; the input reads as it did. -/
def wireBackSpec : ChangeSpec := { name := "wireBack", fn := fun _ => fun
  | [d1, d2, d3] => { results := [.lit (.bool true)], args := [d1, d2, d3] }
  | _ => none }
def wireBackRow : OpenClaim := { program := "ythbcnlflkanahaa", sum := "ae231833d3ccaf93fd2ac6c1d0a6e2bca5c1d7d050afb11e11e68c8587daaf21", func := "lychgate/lychgatelaw01.WireBack", spec := "wireBack", unfollowed := true, recurses := true, apart := false }
def WireBackSaid : Prop := wireBackRow.holds Try.pinned (OpenSpec.ofChange wireBackSpec)

/-- ITS FALSE NEIGHBOUR: 'it returns false'. Refute it at one input. -/
def wireBackWrong : ChangeSpec := { name := "wireBack", fn := fun _ => fun
  | [d1, d2, d3] => { results := [.lit (.bool false)], args := [d1, d2, d3] }
  | _ => none }
def WireBackWrongFalsely : Prop := wireBackRow.holds Try.pinned (OpenSpec.ofChange wireBackWrong)

/-- 'lychgatelaw01.WireWords': WHATEVER THE INPUT: true; the input reads as it did. -/
def wireWordsSpec : ChangeSpec := { name := "wireWords", fn := fun _ => fun
  | [d1, d2, d3] => { results := [.lit (.bool true)], args := [d1, d2, d3] }
  | _ => none }
def wireWordsRow : OpenClaim := { program := "ythbcnlflkanahaa", sum := "ae231833d3ccaf93fd2ac6c1d0a6e2bca5c1d7d050afb11e11e68c8587daaf21", func := "lychgate/lychgatelaw01.WireWords", spec := "wireWords", unfollowed := true, recurses := true, apart := false }
def WireWordsSaid : Prop := wireWordsRow.holds Try.pinned (OpenSpec.ofChange wireWordsSpec)

/-- ITS FALSE NEIGHBOUR: 'it returns false'. Refute it at one input. -/
def wireWordsWrong : ChangeSpec := { name := "wireWords", fn := fun _ => fun
  | [d1, d2, d3] => { results := [.lit (.bool false)], args := [d1, d2, d3] }
  | _ => none }
def WireWordsWrongFalsely : Prop := wireWordsRow.holds Try.pinned (OpenSpec.ofChange wireWordsWrong)

/-- 'lychgatelaw01.WirePseudo': WHATEVER THE INPUT: true; the input reads as it did. -/
def wirePseudoSpec : ChangeSpec := { name := "wirePseudo", fn := fun _ => fun
  | [d1, d2, d3] => { results := [.lit (.bool true)], args := [d1, d2, d3] }
  | _ => none }
def wirePseudoRow : OpenClaim := { program := "ythbcnlflkanahaa", sum := "ae231833d3ccaf93fd2ac6c1d0a6e2bca5c1d7d050afb11e11e68c8587daaf21", func := "lychgate/lychgatelaw01.WirePseudo", spec := "wirePseudo", unfollowed := true, recurses := true, apart := false }
def WirePseudoSaid : Prop := wirePseudoRow.holds Try.pinned (OpenSpec.ofChange wirePseudoSpec)

/-- ITS FALSE NEIGHBOUR: 'it returns false'. Refute it at one input. -/
def wirePseudoWrong : ChangeSpec := { name := "wirePseudo", fn := fun _ => fun
  | [d1, d2, d3] => { results := [.lit (.bool false)], args := [d1, d2, d3] }
  | _ => none }
def WirePseudoWrongFalsely : Prop := wirePseudoRow.holds Try.pinned (OpenSpec.ofChange wirePseudoWrong)

/- THE SECOND FORM. 'bulk': how many values and letters a reading holds, each counted each time it is reached (what is shared counts as often as it is met; a slice's spare places count too). A statement '..UptoSaid' is the law's where the arguments, and the package variables that the reading takes, are together of bulk at most 1048576: NARROWER than '..Said'. Prove '..Said' where nothing that the law and all that it calls make is longer than what came in: it says more and counts as full. Else prove '..UptoSaid'. A law counts once. -/
mutual
def uptoBulk {H : Type} : DataW H → Nat
  | .lit (.string bytes) => bytes.length + 1
  | .lit _ => 1
  | .nil => 1
  | .ptr d => uptoBulk d + 1
  | .slice elems spare => uptoBulkAll elems + uptoBulkAll spare + 1
  | .agg parts => uptoBulkAll parts + 1
  | .iface _ d => uptoBulk d + 1
  | .map entries => uptoBulkEntries entries + 1
  | .held _ => 1
def uptoBulkAll {H : Type} : List (DataW H) → Nat
  | [] => 0
  | d :: r => uptoBulk d + uptoBulkAll r
def uptoBulkEntries {H : Type} : List (Lit × DataW H) → Nat
  | [] => 0
  | x :: r => uptoBulkEntry x + uptoBulkEntries r
def uptoBulkEntry {H : Type} : Lit × DataW H → Nat
  | (.string bytes, d) => bytes.length + uptoBulk d + 1
  | (_, d) => uptoBulk d + 1
 end
def uptoSmall : (H : Type) → List (DataW H) → Bool := fun _ ds => decide (uptoBulkAll ds ≤ 1048576)
def OpenSpec.upto (s : _root_.Go.ChangeSpec) : _root_.Go.OpenSpec := { _root_.Go.OpenSpec.ofChange s with cond := some uptoSmall }

/-- 'lychgatelaw01.WireAhead', WHERE WHAT IT READS IS OF BULK AT MOST 1048576: true; the input reads as it did. -/
def wireAheadUptoRow : OpenClaim := { program := "ythbcnlflkanahaa", sum := "ae231833d3ccaf93fd2ac6c1d0a6e2bca5c1d7d050afb11e11e68c8587daaf21", func := "lychgate/lychgatelaw01.WireAhead", spec := "wireAhead", unfollowed := true, recurses := true, apart := false, narrowed := true }
def WireAheadUptoSaid : Prop := wireAheadUptoRow.holds Try.pinned (OpenSpec.upto wireAheadSpec)

/-- 'lychgatelaw01.WireOrder', WHERE WHAT IT READS IS OF BULK AT MOST 1048576: true; the input reads as it did. -/
def wireOrderUptoRow : OpenClaim := { program := "ythbcnlflkanahaa", sum := "ae231833d3ccaf93fd2ac6c1d0a6e2bca5c1d7d050afb11e11e68c8587daaf21", func := "lychgate/lychgatelaw01.WireOrder", spec := "wireOrder", unfollowed := true, recurses := true, apart := false, narrowed := true }
def WireOrderUptoSaid : Prop := wireOrderUptoRow.holds Try.pinned (OpenSpec.upto wireOrderSpec)

/-- 'lychgatelaw01.WireZeros', WHERE WHAT IT READS IS OF BULK AT MOST 1048576: true; the input reads as it did. -/
def wireZerosUptoRow : OpenClaim := { program := "ythbcnlflkanahaa", sum := "ae231833d3ccaf93fd2ac6c1d0a6e2bca5c1d7d050afb11e11e68c8587daaf21", func := "lychgate/lychgatelaw01.WireZeros", spec := "wireZeros", unfollowed := true, recurses := true, apart := false, narrowed := true }
def WireZerosUptoSaid : Prop := wireZerosUptoRow.holds Try.pinned (OpenSpec.upto wireZerosSpec)

/-- 'lychgatelaw01.WireSums', WHERE WHAT IT READS IS OF BULK AT MOST 1048576: true; the input reads as it did. -/
def wireSumsUptoRow : OpenClaim := { program := "ythbcnlflkanahaa", sum := "ae231833d3ccaf93fd2ac6c1d0a6e2bca5c1d7d050afb11e11e68c8587daaf21", func := "lychgate/lychgatelaw01.WireSums", spec := "wireSums", unfollowed := true, recurses := true, apart := false, narrowed := true }
def WireSumsUptoSaid : Prop := wireSumsUptoRow.holds Try.pinned (OpenSpec.upto wireSumsSpec)

/-- 'lychgatelaw01.WirePatches', WHERE WHAT IT READS IS OF BULK AT MOST 1048576: true; the input reads as it did. -/
def wirePatchesUptoRow : OpenClaim := { program := "ythbcnlflkanahaa", sum := "ae231833d3ccaf93fd2ac6c1d0a6e2bca5c1d7d050afb11e11e68c8587daaf21", func := "lychgate/lychgatelaw01.WirePatches", spec := "wirePatches", unfollowed := true, recurses := true, apart := false, narrowed := true }
def WirePatchesUptoSaid : Prop := wirePatchesUptoRow.holds Try.pinned (OpenSpec.upto wirePatchesSpec)

/-- 'lychgatelaw01.WireGood', WHERE WHAT IT READS IS OF BULK AT MOST 1048576: true; the input reads as it did. -/
def wireGoodUptoRow : OpenClaim := { program := "ythbcnlflkanahaa", sum := "ae231833d3ccaf93fd2ac6c1d0a6e2bca5c1d7d050afb11e11e68c8587daaf21", func := "lychgate/lychgatelaw01.WireGood", spec := "wireGood", unfollowed := true, recurses := true, apart := false, narrowed := true }
def WireGoodUptoSaid : Prop := wireGoodUptoRow.holds Try.pinned (OpenSpec.upto wireGoodSpec)

/-- 'lychgatelaw01.WirePatched', WHERE WHAT IT READS IS OF BULK AT MOST 1048576: true; the input reads as it did. -/
def wirePatchedUptoRow : OpenClaim := { program := "ythbcnlflkanahaa", sum := "ae231833d3ccaf93fd2ac6c1d0a6e2bca5c1d7d050afb11e11e68c8587daaf21", func := "lychgate/lychgatelaw01.WirePatched", spec := "wirePatched", unfollowed := true, recurses := true, apart := false, narrowed := true }
def WirePatchedUptoSaid : Prop := wirePatchedUptoRow.holds Try.pinned (OpenSpec.upto wirePatchedSpec)

/-- 'lychgatelaw01.WireBack', WHERE WHAT IT READS IS OF BULK AT MOST 1048576: true; the input reads as it did. -/
def wireBackUptoRow : OpenClaim := { program := "ythbcnlflkanahaa", sum := "ae231833d3ccaf93fd2ac6c1d0a6e2bca5c1d7d050afb11e11e68c8587daaf21", func := "lychgate/lychgatelaw01.WireBack", spec := "wireBack", unfollowed := true, recurses := true, apart := false, narrowed := true }
def WireBackUptoSaid : Prop := wireBackUptoRow.holds Try.pinned (OpenSpec.upto wireBackSpec)

/-- 'lychgatelaw01.WireWords', WHERE WHAT IT READS IS OF BULK AT MOST 1048576: true; the input reads as it did. -/
def wireWordsUptoRow : OpenClaim := { program := "ythbcnlflkanahaa", sum := "ae231833d3ccaf93fd2ac6c1d0a6e2bca5c1d7d050afb11e11e68c8587daaf21", func := "lychgate/lychgatelaw01.WireWords", spec := "wireWords", unfollowed := true, recurses := true, apart := false, narrowed := true }
def WireWordsUptoSaid : Prop := wireWordsUptoRow.holds Try.pinned (OpenSpec.upto wireWordsSpec)

/-- 'lychgatelaw01.WirePseudo', WHERE WHAT IT READS IS OF BULK AT MOST 1048576: true; the input reads as it did. -/
def wirePseudoUptoRow : OpenClaim := { program := "ythbcnlflkanahaa", sum := "ae231833d3ccaf93fd2ac6c1d0a6e2bca5c1d7d050afb11e11e68c8587daaf21", func := "lychgate/lychgatelaw01.WirePseudo", spec := "wirePseudo", unfollowed := true, recurses := true, apart := false, narrowed := true }
def WirePseudoUptoSaid : Prop := wirePseudoUptoRow.holds Try.pinned (OpenSpec.upto wirePseudoSpec)

end Rows
end Go.Proofs.Ythbcnlflkanahaa

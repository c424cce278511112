/-
  No cell of these rows narrows 'for every input' (looked for: loops, veiled, ifaces, maps, wideKeys, modest, calm, conditions, laid).
  DERIVED. THE GIVEN ROWS OF THIS SEAT. 7 by the template 'for every input the law returns true; each argument reads behind the call as it read before'; 0 by the template 'total and deterministic' (their statements: YtkiiaaadcfaojaaTotals.lean).
  GIVEN WITH THE SEED: the statements are not yours to turn. If you find one false, say at which input.
  Laid BY PROGRAM, IN A SANDBOX (cutbox-rows.mjs): the forced cells as the released guide's own fill.sh prints them over the translation 0af7c0d18b675d6a… (all of the seat's roots in one cut). By AI agents, Wed Nov 11 2026. No macro, syntax, notation, axiom, sorry.
-/
import Derived.Test.YtkiiaaadcfaojaaChecked
import GoSem.Claim
import GoSem.ClaimJoined
import GoSem.ClaimMapViews
import Derived.JoinedTies
import Derived.KernelRfl
namespace Go.Proofs.Ytkiiaaadcfaojaa
/- THE CELL 'sum', in the pinned program and in every row, IS THE sha256 OF THE DUMP (.gsa) THAT YtkiiaaadcfaojaaProg.lean LOADS. Nothing in Lean hashes anything: it is a label: what it is worth is what the hold of that sum in a sandbox is worth. -/
noncomputable def Try.pinned : Pinned := { name := "ytkiiaaadcfaojaa", sum := "0af7c0d18b675d6a25295f99f1e29f0098004968e60ae29a35f71b80d1ff26ff", checked := Try.checked }
namespace Rows
def none {H : Type} : Left H := { results := [], args := [] }

/-- 'lychgatelaw15.PptpParses': WHATEVER THE INPUT: true; the input reads as it did. -/
def pptpParsesSpec : ChangeSpec := { name := "pptpParses", fn := fun _ => fun
  | [d] => { results := [.lit (.bool true)], args := [d] }
  | _ => none }
def pptpParsesRow : OpenClaim := { program := "ytkiiaaadcfaojaa", sum := "0af7c0d18b675d6a25295f99f1e29f0098004968e60ae29a35f71b80d1ff26ff", func := "lychgate/lychgatelaw15.PptpParses", spec := "pptpParses", apart := false }
def PptpParsesSaid : Prop := pptpParsesRow.holds Try.pinned (OpenSpec.ofChange pptpParsesSpec)

/-- ITS FALSE NEIGHBOUR: 'it returns false'. Refute it at one input. -/
def pptpParsesWrong : ChangeSpec := { name := "pptpParses", fn := fun _ => fun
  | [d] => { results := [.lit (.bool false)], args := [d] }
  | _ => none }
def PptpParsesWrongFalsely : Prop := pptpParsesRow.holds Try.pinned (OpenSpec.ofChange pptpParsesWrong)

/-- 'lychgatelaw15.PptpSizes': WHATEVER THE INPUT: true; the input reads as it did. -/
def pptpSizesSpec : ChangeSpec := { name := "pptpSizes", fn := fun _ => fun
  | [d] => { results := [.lit (.bool true)], args := [d] }
  | _ => none }
def pptpSizesRow : OpenClaim := { program := "ytkiiaaadcfaojaa", sum := "0af7c0d18b675d6a25295f99f1e29f0098004968e60ae29a35f71b80d1ff26ff", func := "lychgate/lychgatelaw15.PptpSizes", spec := "pptpSizes", apart := false }
def PptpSizesSaid : Prop := pptpSizesRow.holds Try.pinned (OpenSpec.ofChange pptpSizesSpec)

/-- ITS FALSE NEIGHBOUR: 'it returns false'. Refute it at one input. -/
def pptpSizesWrong : ChangeSpec := { name := "pptpSizes", fn := fun _ => fun
  | [d] => { results := [.lit (.bool false)], args := [d] }
  | _ => none }
def PptpSizesWrongFalsely : Prop := pptpSizesRow.holds Try.pinned (OpenSpec.ofChange pptpSizesWrong)

/-- 'lychgatelaw15.PptpTypes': WHATEVER THE INPUT: true; the input reads as it did. -/
def pptpTypesSpec : ChangeSpec := { name := "pptpTypes", fn := fun _ => fun
  | [d1, d2] => { results := [.lit (.bool true)], args := [d1, d2] }
  | _ => none }
def pptpTypesRow : OpenClaim := { program := "ytkiiaaadcfaojaa", sum := "0af7c0d18b675d6a25295f99f1e29f0098004968e60ae29a35f71b80d1ff26ff", func := "lychgate/lychgatelaw15.PptpTypes", spec := "pptpTypes", apart := false }
def PptpTypesSaid : Prop := pptpTypesRow.holds Try.pinned (OpenSpec.ofChange pptpTypesSpec)

/-- ITS FALSE NEIGHBOUR: 'it returns false'. Refute it at one input. -/
def pptpTypesWrong : ChangeSpec := { name := "pptpTypes", fn := fun _ => fun
  | [d1, d2] => { results := [.lit (.bool false)], args := [d1, d2] }
  | _ => none }
def PptpTypesWrongFalsely : Prop := pptpTypesRow.holds Try.pinned (OpenSpec.ofChange pptpTypesWrong)

/-- 'lychgatelaw15.PptpClear': WHATEVER THE INPUT: true; the input reads as it did. -/
def pptpClearSpec : ChangeSpec := { name := "pptpClear", fn := fun _ => fun
  | [d1, d2] => { results := [.lit (.bool true)], args := [d1, d2] }
  | _ => none }
def pptpClearRow : OpenClaim := { program := "ytkiiaaadcfaojaa", sum := "0af7c0d18b675d6a25295f99f1e29f0098004968e60ae29a35f71b80d1ff26ff", func := "lychgate/lychgatelaw15.PptpClear", spec := "pptpClear", unfollowed := true, recurses := true, apart := false }
def PptpClearSaid : Prop := pptpClearRow.holds Try.pinned (OpenSpec.ofChange pptpClearSpec)

/-- ITS FALSE NEIGHBOUR: 'it returns false'. Refute it at one input. -/
def pptpClearWrong : ChangeSpec := { name := "pptpClear", fn := fun _ => fun
  | [d1, d2] => { results := [.lit (.bool false)], args := [d1, d2] }
  | _ => none }
def PptpClearWrongFalsely : Prop := pptpClearRow.holds Try.pinned (OpenSpec.ofChange pptpClearWrong)

/-- 'lychgatelaw15.PptpChanges': WHATEVER THE INPUT: true; the input reads as it did. -/
def pptpChangesSpec : ChangeSpec := { name := "pptpChanges", fn := fun _ => fun
  | [d1, d2, d3] => { results := [.lit (.bool true)], args := [d1, d2, d3] }
  | _ => none }
def pptpChangesRow : OpenClaim := { program := "ytkiiaaadcfaojaa", sum := "0af7c0d18b675d6a25295f99f1e29f0098004968e60ae29a35f71b80d1ff26ff", func := "lychgate/lychgatelaw15.PptpChanges", spec := "pptpChanges", unfollowed := true, recurses := true, apart := false }
def PptpChangesSaid : Prop := pptpChangesRow.holds Try.pinned (OpenSpec.ofChange pptpChangesSpec)

/-- ITS FALSE NEIGHBOUR: 'it returns false'. Refute it at one input. -/
def pptpChangesWrong : ChangeSpec := { name := "pptpChanges", fn := fun _ => fun
  | [d1, d2, d3] => { results := [.lit (.bool false)], args := [d1, d2, d3] }
  | _ => none }
def PptpChangesWrongFalsely : Prop := pptpChangesRow.holds Try.pinned (OpenSpec.ofChange pptpChangesWrong)

/-- 'lychgatelaw15.PptpKeeps': WHATEVER THE INPUT: true; the input reads as it did. -/
def pptpKeepsSpec : ChangeSpec := { name := "pptpKeeps", fn := fun _ => fun
  | [d1, d2] => { results := [.lit (.bool true)], args := [d1, d2] }
  | _ => none }
def pptpKeepsRow : OpenClaim := { program := "ytkiiaaadcfaojaa", sum := "0af7c0d18b675d6a25295f99f1e29f0098004968e60ae29a35f71b80d1ff26ff", func := "lychgate/lychgatelaw15.PptpKeeps", spec := "pptpKeeps", unfollowed := true, recurses := true, apart := false }
def PptpKeepsSaid : Prop := pptpKeepsRow.holds Try.pinned (OpenSpec.ofChange pptpKeepsSpec)

/-- ITS FALSE NEIGHBOUR: 'it returns false'. Refute it at one input. -/
def pptpKeepsWrong : ChangeSpec := { name := "pptpKeeps", fn := fun _ => fun
  | [d1, d2] => { results := [.lit (.bool false)], args := [d1, d2] }
  | _ => none }
def PptpKeepsWrongFalsely : Prop := pptpKeepsRow.holds Try.pinned (OpenSpec.ofChange pptpKeepsWrong)

/-- 'lychgatelaw15.PptpSelf': WHATEVER THE INPUT: true; the input reads as it did. -/
def pptpSelfSpec : ChangeSpec := { name := "pptpSelf", fn := fun _ => fun
  | [d] => { results := [.lit (.bool true)], args := [d] }
  | _ => none }
def pptpSelfRow : OpenClaim := { program := "ytkiiaaadcfaojaa", sum := "0af7c0d18b675d6a25295f99f1e29f0098004968e60ae29a35f71b80d1ff26ff", func := "lychgate/lychgatelaw15.PptpSelf", spec := "pptpSelf", unfollowed := true, recurses := true, apart := false }
def PptpSelfSaid : Prop := pptpSelfRow.holds Try.pinned (OpenSpec.ofChange pptpSelfSpec)

/-- ITS FALSE NEIGHBOUR: 'it returns false'. Refute it at one input. -/
def pptpSelfWrong : ChangeSpec := { name := "pptpSelf", fn := fun _ => fun
  | [d] => { results := [.lit (.bool false)], args := [d] }
  | _ => none }
def PptpSelfWrongFalsely : Prop := pptpSelfRow.holds Try.pinned (OpenSpec.ofChange pptpSelfWrong)

/- THE SECOND FORM. 'bulk': how many values and letters a reading holds, each counted each time it is reached (what is shared counts as often as it is met; a slice's spare places count too). A statement '..UptoSaid' is the law's where the arguments, and the package variables that the reading takes, are together of bulk at most 1048576: NARROWER than '..Said'. Prove '..Said' where nothing that the law and all that it calls make is longer than what came in: it says more and counts as full. Else prove '..UptoSaid'. A law counts once. -/
mutual
def uptoBulk {H : Type} : DataW H → Nat
  | .lit (.string bytes) => bytes.length + 1
  | .lit _ => 1
  | .nil => 1
  | .ptr d => uptoBulk d + 1
  | .slice elems spare => uptoBulkAll elems + uptoBulkAll spare + 1
  | .agg parts => uptoBulkAll parts + 1
  | .iface _ d => uptoBulk d + 1
  | .map entries => uptoBulkEntries entries + 1
  | .held _ => 1
def uptoBulkAll {H : Type} : List (DataW H) → Nat
  | [] => 0
  | d :: r => uptoBulk d + uptoBulkAll r
def uptoBulkEntries {H : Type} : List (Lit × DataW H) → Nat
  | [] => 0
  | x :: r => uptoBulkEntry x + uptoBulkEntries r
def uptoBulkEntry {H : Type} : Lit × DataW H → Nat
  | (.string bytes, d) => bytes.length + uptoBulk d + 1
  | (_, d) => uptoBulk d + 1
 end
def uptoSmall : (H : Type) → List (DataW H) → Bool := fun _ ds => decide (uptoBulkAll ds ≤ 1048576)
def OpenSpec.upto (s : _root_.Go.ChangeSpec) : _root_.Go.OpenSpec := { _root_.Go.OpenSpec.ofChange s with cond := some uptoSmall }

/-- 'lychgatelaw15.PptpParses', WHERE WHAT IT READS IS OF BULK AT MOST 1048576: true; the input reads as it did. -/
def pptpParsesUptoRow : OpenClaim := { program := "ytkiiaaadcfaojaa", sum := "0af7c0d18b675d6a25295f99f1e29f0098004968e60ae29a35f71b80d1ff26ff", func := "lychgate/lychgatelaw15.PptpParses", spec := "pptpParses", apart := false, narrowed := true }
def PptpParsesUptoSaid : Prop := pptpParsesUptoRow.holds Try.pinned (OpenSpec.upto pptpParsesSpec)

/-- 'lychgatelaw15.PptpSizes', WHERE WHAT IT READS IS OF BULK AT MOST 1048576: true; the input reads as it did. -/
def pptpSizesUptoRow : OpenClaim := { program := "ytkiiaaadcfaojaa", sum := "0af7c0d18b675d6a25295f99f1e29f0098004968e60ae29a35f71b80d1ff26ff", func := "lychgate/lychgatelaw15.PptpSizes", spec := "pptpSizes", apart := false, narrowed := true }
def PptpSizesUptoSaid : Prop := pptpSizesUptoRow.holds Try.pinned (OpenSpec.upto pptpSizesSpec)

/-- 'lychgatelaw15.PptpTypes', WHERE WHAT IT READS IS OF BULK AT MOST 1048576: true; the input reads as it did. -/
def pptpTypesUptoRow : OpenClaim := { program := "ytkiiaaadcfaojaa", sum := "0af7c0d18b675d6a25295f99f1e29f0098004968e60ae29a35f71b80d1ff26ff", func := "lychgate/lychgatelaw15.PptpTypes", spec := "pptpTypes", apart := false, narrowed := true }
def PptpTypesUptoSaid : Prop := pptpTypesUptoRow.holds Try.pinned (OpenSpec.upto pptpTypesSpec)

/-- 'lychgatelaw15.PptpClear', WHERE WHAT IT READS IS OF BULK AT MOST 1048576: true; the input reads as it did. -/
def pptpClearUptoRow : OpenClaim := { program := "ytkiiaaadcfaojaa", sum := "0af7c0d18b675d6a25295f99f1e29f0098004968e60ae29a35f71b80d1ff26ff", func := "lychgate/lychgatelaw15.PptpClear", spec := "pptpClear", unfollowed := true, recurses := true, apart := false, narrowed := true }
def PptpClearUptoSaid : Prop := pptpClearUptoRow.holds Try.pinned (OpenSpec.upto pptpClearSpec)

/-- 'lychgatelaw15.PptpChanges', WHERE WHAT IT READS IS OF BULK AT MOST 1048576: true; the input reads as it did. -/
def pptpChangesUptoRow : OpenClaim := { program := "ytkiiaaadcfaojaa", sum := "0af7c0d18b675d6a25295f99f1e29f0098004968e60ae29a35f71b80d1ff26ff", func := "lychgate/lychgatelaw15.PptpChanges", spec := "pptpChanges", unfollowed := true, recurses := true, apart := false, narrowed := true }
def PptpChangesUptoSaid : Prop := pptpChangesUptoRow.holds Try.pinned (OpenSpec.upto pptpChangesSpec)

/-- 'lychgatelaw15.PptpKeeps', WHERE WHAT IT READS IS OF BULK AT MOST 1048576: true; the input reads as it did. -/
def pptpKeepsUptoRow : OpenClaim := { program := "ytkiiaaadcfaojaa", sum := "0af7c0d18b675d6a25295f99f1e29f0098004968e60ae29a35f71b80d1ff26ff", func := "lychgate/lychgatelaw15.PptpKeeps", spec := "pptpKeeps", unfollowed := true, recurses := true, apart := false, narrowed := true }
def PptpKeepsUptoSaid : Prop := pptpKeepsUptoRow.holds Try.pinned (OpenSpec.upto pptpKeepsSpec)

/-- 'lychgatelaw15.PptpSelf', WHERE WHAT IT READS IS OF BULK AT MOST 1048576: true; the input reads as it did. -/
def pptpSelfUptoRow : OpenClaim := { program := "ytkiiaaadcfaojaa", sum := "0af7c0d18b675d6a25295f99f1e29f0098004968e60ae29a35f71b80d1ff26ff", func := "lychgate/lychgatelaw15.PptpSelf", spec := "pptpSelf", unfollowed := true, recurses := true, apart := false, narrowed := true }
def PptpSelfUptoSaid : Prop := pptpSelfUptoRow.holds Try.pinned (OpenSpec.upto pptpSelfSpec)

end Rows
end Go.Proofs.Ytkiiaaadcfaojaa

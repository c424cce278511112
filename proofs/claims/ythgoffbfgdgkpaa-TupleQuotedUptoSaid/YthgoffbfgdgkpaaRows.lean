/-
  No cell of these rows narrows 'for every input' (looked for: loops, veiled, ifaces, maps, wideKeys, modest, calm, conditions, laid).
  DERIVED. THE GIVEN ROWS OF THIS SEAT. 7 by the template 'for every input the law returns true; each argument reads behind the call as it read before'; 0 by the template 'total and deterministic' (their statements: YthgoffbfgdgkpaaTotals.lean).
  GIVEN WITH THE SEED: the statements are not yours to turn. If you find one false, say at which input.
  Laid BY PROGRAM, IN A SANDBOX (cutbox-rows.mjs): the forced cells as the released guide's own fill.sh prints them over the translation 785a6c74afc092e9… (all of the seat's roots in one cut). By AI agents, Wed Nov 11 2026. No macro, syntax, notation, axiom, sorry.
-/
import Derived.Test.YthgoffbfgdgkpaaChecked
import GoSem.Claim
import GoSem.ClaimJoined
import GoSem.ClaimMapViews
import Derived.JoinedTies
import Derived.KernelRfl
namespace Go.Proofs.Ythgoffbfgdgkpaa
/- THE CELL 'sum', in the pinned program and in every row, IS THE sha256 OF THE DUMP (.gsa) THAT YthgoffbfgdgkpaaProg.lean LOADS. Nothing in Lean hashes anything: it is a label: what it is worth is what the hold of that sum in a sandbox is worth. -/
noncomputable def Try.pinned : Pinned := { name := "ythgoffbfgdgkpaa", sum := "785a6c74afc092e9c2995fd1339cbffd663ce92902c50097338b75de99c22f75", checked := Try.checked }
namespace Rows
def none {H : Type} : Left H := { results := [], args := [] }

/-- 'lychgatelaw05.TupleOf': WHATEVER THE INPUT: true; the input reads as it did. -/
def tupleOfSpec : ChangeSpec := { name := "tupleOf", fn := fun _ => fun
  | [d] => { results := [.lit (.bool true)], args := [d] }
  | _ => none }
def tupleOfRow : OpenClaim := { program := "ythgoffbfgdgkpaa", sum := "785a6c74afc092e9c2995fd1339cbffd663ce92902c50097338b75de99c22f75", func := "lychgate/lychgatelaw05.TupleOf", spec := "tupleOf", unfollowed := true, recurses := true, apart := false }
def TupleOfSaid : Prop := tupleOfRow.holds Try.pinned (OpenSpec.ofChange tupleOfSpec)

/-- ITS FALSE NEIGHBOUR: 'it returns false'. Refute it at one input. -/
def tupleOfWrong : ChangeSpec := { name := "tupleOf", fn := fun _ => fun
  | [d] => { results := [.lit (.bool false)], args := [d] }
  | _ => none }
def TupleOfWrongFalsely : Prop := tupleOfRow.holds Try.pinned (OpenSpec.ofChange tupleOfWrong)

/-- 'lychgatelaw05.TupleTurns': WHATEVER THE INPUT: true; the input reads as it did. -/
def tupleTurnsSpec : ChangeSpec := { name := "tupleTurns", fn := fun _ => fun
  | [d] => { results := [.lit (.bool true)], args := [d] }
  | _ => none }
def tupleTurnsRow : OpenClaim := { program := "ythgoffbfgdgkpaa", sum := "785a6c74afc092e9c2995fd1339cbffd663ce92902c50097338b75de99c22f75", func := "lychgate/lychgatelaw05.TupleTurns", spec := "tupleTurns", unfollowed := true, recurses := true, apart := false }
def TupleTurnsSaid : Prop := tupleTurnsRow.holds Try.pinned (OpenSpec.ofChange tupleTurnsSpec)

/-- ITS FALSE NEIGHBOUR: 'it returns false'. Refute it at one input. -/
def tupleTurnsWrong : ChangeSpec := { name := "tupleTurns", fn := fun _ => fun
  | [d] => { results := [.lit (.bool false)], args := [d] }
  | _ => none }
def TupleTurnsWrongFalsely : Prop := tupleTurnsRow.holds Try.pinned (OpenSpec.ofChange tupleTurnsWrong)

/-- 'lychgatelaw05.TupleTwice': WHATEVER THE INPUT: true; the input reads as it did. -/
def tupleTwiceSpec : ChangeSpec := { name := "tupleTwice", fn := fun _ => fun
  | [d1, d2] => { results := [.lit (.bool true)], args := [d1, d2] }
  | _ => none }
def tupleTwiceRow : OpenClaim := { program := "ythgoffbfgdgkpaa", sum := "785a6c74afc092e9c2995fd1339cbffd663ce92902c50097338b75de99c22f75", func := "lychgate/lychgatelaw05.TupleTwice", spec := "tupleTwice", unfollowed := true, recurses := true, apart := false }
def TupleTwiceSaid : Prop := tupleTwiceRow.holds Try.pinned (OpenSpec.ofChange tupleTwiceSpec)

/-- ITS FALSE NEIGHBOUR: 'it returns false'. Refute it at one input. -/
def tupleTwiceWrong : ChangeSpec := { name := "tupleTwice", fn := fun _ => fun
  | [d1, d2] => { results := [.lit (.bool false)], args := [d1, d2] }
  | _ => none }
def TupleTwiceWrongFalsely : Prop := tupleTwiceRow.holds Try.pinned (OpenSpec.ofChange tupleTwiceWrong)

/-- 'lychgatelaw05.TupleTold': WHATEVER THE INPUT: true; the input reads as it did. -/
def tupleToldSpec : ChangeSpec := { name := "tupleTold", fn := fun _ => fun
  | [d1, d2, d3] => { results := [.lit (.bool true)], args := [d1, d2, d3] }
  | _ => none }
def tupleToldRow : OpenClaim := { program := "ythgoffbfgdgkpaa", sum := "785a6c74afc092e9c2995fd1339cbffd663ce92902c50097338b75de99c22f75", func := "lychgate/lychgatelaw05.TupleTold", spec := "tupleTold", unfollowed := true, recurses := true, apart := false }
def TupleToldSaid : Prop := tupleToldRow.holds Try.pinned (OpenSpec.ofChange tupleToldSpec)

/-- ITS FALSE NEIGHBOUR: 'it returns false'. Refute it at one input. -/
def tupleToldWrong : ChangeSpec := { name := "tupleTold", fn := fun _ => fun
  | [d1, d2, d3] => { results := [.lit (.bool false)], args := [d1, d2, d3] }
  | _ => none }
def TupleToldWrongFalsely : Prop := tupleToldRow.holds Try.pinned (OpenSpec.ofChange tupleToldWrong)

/-- 'lychgatelaw05.TupleOthers': WHATEVER THE INPUT: true; the input reads as it did. -/
def tupleOthersSpec : ChangeSpec := { name := "tupleOthers", fn := fun _ => fun
  | [d1, d2] => { results := [.lit (.bool true)], args := [d1, d2] }
  | _ => none }
def tupleOthersRow : OpenClaim := { program := "ythgoffbfgdgkpaa", sum := "785a6c74afc092e9c2995fd1339cbffd663ce92902c50097338b75de99c22f75", func := "lychgate/lychgatelaw05.TupleOthers", spec := "tupleOthers", unfollowed := true, recurses := true, apart := false }
def TupleOthersSaid : Prop := tupleOthersRow.holds Try.pinned (OpenSpec.ofChange tupleOthersSpec)

/-- ITS FALSE NEIGHBOUR: 'it returns false'. Refute it at one input. -/
def tupleOthersWrong : ChangeSpec := { name := "tupleOthers", fn := fun _ => fun
  | [d1, d2] => { results := [.lit (.bool false)], args := [d1, d2] }
  | _ => none }
def TupleOthersWrongFalsely : Prop := tupleOthersRow.holds Try.pinned (OpenSpec.ofChange tupleOthersWrong)

/-- 'lychgatelaw05.TupleQuoted': WHATEVER THE INPUT: true; the input reads as it did. -/
def tupleQuotedSpec : ChangeSpec := { name := "tupleQuoted", fn := fun _ => fun
  | [d] => { results := [.lit (.bool true)], args := [d] }
  | _ => none }
def tupleQuotedRow : OpenClaim := { program := "ythgoffbfgdgkpaa", sum := "785a6c74afc092e9c2995fd1339cbffd663ce92902c50097338b75de99c22f75", func := "lychgate/lychgatelaw05.TupleQuoted", spec := "tupleQuoted", unfollowed := true, recurses := true, apart := false }
def TupleQuotedSaid : Prop := tupleQuotedRow.holds Try.pinned (OpenSpec.ofChange tupleQuotedSpec)

/-- ITS FALSE NEIGHBOUR: 'it returns false'. Refute it at one input. -/
def tupleQuotedWrong : ChangeSpec := { name := "tupleQuoted", fn := fun _ => fun
  | [d] => { results := [.lit (.bool false)], args := [d] }
  | _ => none }
def TupleQuotedWrongFalsely : Prop := tupleQuotedRow.holds Try.pinned (OpenSpec.ofChange tupleQuotedWrong)

/-- 'lychgatelaw05.TupleErrors': WHATEVER THE INPUT: true; the input reads as it did. -/
def tupleErrorsSpec : ChangeSpec := { name := "tupleErrors", fn := fun _ => fun
  | [d1, d2, d3] => { results := [.lit (.bool true)], args := [d1, d2, d3] }
  | _ => none }
def tupleErrorsRow : OpenClaim := { program := "ythgoffbfgdgkpaa", sum := "785a6c74afc092e9c2995fd1339cbffd663ce92902c50097338b75de99c22f75", func := "lychgate/lychgatelaw05.TupleErrors", spec := "tupleErrors", unfollowed := true, recurses := true, apart := false }
def TupleErrorsSaid : Prop := tupleErrorsRow.holds Try.pinned (OpenSpec.ofChange tupleErrorsSpec)

/-- ITS FALSE NEIGHBOUR: 'it returns false'. Refute it at one input. -/
def tupleErrorsWrong : ChangeSpec := { name := "tupleErrors", fn := fun _ => fun
  | [d1, d2, d3] => { results := [.lit (.bool false)], args := [d1, d2, d3] }
  | _ => none }
def TupleErrorsWrongFalsely : Prop := tupleErrorsRow.holds Try.pinned (OpenSpec.ofChange tupleErrorsWrong)

/- THE SECOND FORM. 'bulk': how many values and letters a reading holds, each counted each time it is reached (what is shared counts as often as it is met; a slice's spare places count too). A statement '..UptoSaid' is the law's where the arguments, and the package variables that the reading takes, are together of bulk at most 1048576: NARROWER than '..Said'. Prove '..Said' where nothing that the law and all that it calls make is longer than what came in: it says more and counts as full. Else prove '..UptoSaid'. A law counts once. -/
mutual
def uptoBulk {H : Type} : DataW H → Nat
  | .lit (.string bytes) => bytes.length + 1
  | .lit _ => 1
  | .nil => 1
  | .ptr d => uptoBulk d + 1
  | .slice elems spare => uptoBulkAll elems + uptoBulkAll spare + 1
  | .agg parts => uptoBulkAll parts + 1
  | .iface _ d => uptoBulk d + 1
  | .map entries => uptoBulkEntries entries + 1
  | .held _ => 1
def uptoBulkAll {H : Type} : List (DataW H) → Nat
  | [] => 0
  | d :: r => uptoBulk d + uptoBulkAll r
def uptoBulkEntries {H : Type} : List (Lit × DataW H) → Nat
  | [] => 0
  | x :: r => uptoBulkEntry x + uptoBulkEntries r
def uptoBulkEntry {H : Type} : Lit × DataW H → Nat
  | (.string bytes, d) => bytes.length + uptoBulk d + 1
  | (_, d) => uptoBulk d + 1
 end
def uptoSmall : (H : Type) → List (DataW H) → Bool := fun _ ds => decide (uptoBulkAll ds ≤ 1048576)
def OpenSpec.upto (s : _root_.Go.ChangeSpec) : _root_.Go.OpenSpec := { _root_.Go.OpenSpec.ofChange s with cond := some uptoSmall }

/-- 'lychgatelaw05.TupleOf', WHERE WHAT IT READS IS OF BULK AT MOST 1048576: true; the input reads as it did. -/
def tupleOfUptoRow : OpenClaim := { program := "ythgoffbfgdgkpaa", sum := "785a6c74afc092e9c2995fd1339cbffd663ce92902c50097338b75de99c22f75", func := "lychgate/lychgatelaw05.TupleOf", spec := "tupleOf", unfollowed := true, recurses := true, apart := false, narrowed := true }
def TupleOfUptoSaid : Prop := tupleOfUptoRow.holds Try.pinned (OpenSpec.upto tupleOfSpec)

/-- 'lychgatelaw05.TupleTurns', WHERE WHAT IT READS IS OF BULK AT MOST 1048576: true; the input reads as it did. -/
def tupleTurnsUptoRow : OpenClaim := { program := "ythgoffbfgdgkpaa", sum := "785a6c74afc092e9c2995fd1339cbffd663ce92902c50097338b75de99c22f75", func := "lychgate/lychgatelaw05.TupleTurns", spec := "tupleTurns", unfollowed := true, recurses := true, apart := false, narrowed := true }
def TupleTurnsUptoSaid : Prop := tupleTurnsUptoRow.holds Try.pinned (OpenSpec.upto tupleTurnsSpec)

/-- 'lychgatelaw05.TupleTwice', WHERE WHAT IT READS IS OF BULK AT MOST 1048576: true; the input reads as it did. -/
def tupleTwiceUptoRow : OpenClaim := { program := "ythgoffbfgdgkpaa", sum := "785a6c74afc092e9c2995fd1339cbffd663ce92902c50097338b75de99c22f75", func := "lychgate/lychgatelaw05.TupleTwice", spec := "tupleTwice", unfollowed := true, recurses := true, apart := false, narrowed := true }
def TupleTwiceUptoSaid : Prop := tupleTwiceUptoRow.holds Try.pinned (OpenSpec.upto tupleTwiceSpec)

/-- 'lychgatelaw05.TupleTold', WHERE WHAT IT READS IS OF BULK AT MOST 1048576: true; the input reads as it did. -/
def tupleToldUptoRow : OpenClaim := { program := "ythgoffbfgdgkpaa", sum := "785a6c74afc092e9c2995fd1339cbffd663ce92902c50097338b75de99c22f75", func := "lychgate/lychgatelaw05.TupleTold", spec := "tupleTold", unfollowed := true, recurses := true, apart := false, narrowed := true }
def TupleToldUptoSaid : Prop := tupleToldUptoRow.holds Try.pinned (OpenSpec.upto tupleToldSpec)

/-- 'lychgatelaw05.TupleOthers', WHERE WHAT IT READS IS OF BULK AT MOST 1048576: true; the input reads as it did. -/
def tupleOthersUptoRow : OpenClaim := { program := "ythgoffbfgdgkpaa", sum := "785a6c74afc092e9c2995fd1339cbffd663ce92902c50097338b75de99c22f75", func := "lychgate/lychgatelaw05.TupleOthers", spec := "tupleOthers", unfollowed := true, recurses := true, apart := false, narrowed := true }
def TupleOthersUptoSaid : Prop := tupleOthersUptoRow.holds Try.pinned (OpenSpec.upto tupleOthersSpec)

/-- 'lychgatelaw05.TupleQuoted', WHERE WHAT IT READS IS OF BULK AT MOST 1048576: true; the input reads as it did. -/
def tupleQuotedUptoRow : OpenClaim := { program := "ythgoffbfgdgkpaa", sum := "785a6c74afc092e9c2995fd1339cbffd663ce92902c50097338b75de99c22f75", func := "lychgate/lychgatelaw05.TupleQuoted", spec := "tupleQuoted", unfollowed := true, recurses := true, apart := false, narrowed := true }
def TupleQuotedUptoSaid : Prop := tupleQuotedUptoRow.holds Try.pinned (OpenSpec.upto tupleQuotedSpec)

/-- 'lychgatelaw05.TupleErrors', WHERE WHAT IT READS IS OF BULK AT MOST 1048576: true; the input reads as it did. -/
def tupleErrorsUptoRow : OpenClaim := { program := "ythgoffbfgdgkpaa", sum := "785a6c74afc092e9c2995fd1339cbffd663ce92902c50097338b75de99c22f75", func := "lychgate/lychgatelaw05.TupleErrors", spec := "tupleErrors", unfollowed := true, recurses := true, apart := false, narrowed := true }
def TupleErrorsUptoSaid : Prop := tupleErrorsUptoRow.holds Try.pinned (OpenSpec.upto tupleErrorsSpec)

end Rows
end Go.Proofs.Ythgoffbfgdgkpaa

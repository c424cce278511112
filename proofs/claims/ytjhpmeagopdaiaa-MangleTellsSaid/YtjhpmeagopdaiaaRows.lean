/-
  No cell of these rows narrows 'for every input' (looked for: loops, veiled, ifaces, maps, wideKeys, modest, calm, conditions, laid).
  DERIVED. THE GIVEN ROWS OF THIS SEAT. 4 by the template 'for every input the law returns true; each argument reads behind the call as it read before'; 0 by the template 'total and deterministic' (their statements: YtjhpmeagopdaiaaTotals.lean).
  GIVEN WITH THE SEED: the statements are not yours to turn. If you find one false, say at which input.
  Laid BY PROGRAM, IN A SANDBOX (cutbox-rows.mjs): the forced cells as the released guide's own fill.sh prints them over the translation d6217e5ed736a0eb… (all of the seat's roots in one cut). By AI agents, Wed Nov 11 2026. No macro, syntax, notation, axiom, sorry.
-/
import Derived.Test.YtjhpmeagopdaiaaChecked
import GoSem.Claim
import GoSem.ClaimJoined
import GoSem.ClaimMapViews
import Derived.JoinedTies
import Derived.KernelRfl
namespace Go.Proofs.Ytjhpmeagopdaiaa
/- THE CELL 'sum', in the pinned program and in every row, IS THE sha256 OF THE DUMP (.gsa) THAT YtjhpmeagopdaiaaProg.lean LOADS. Nothing in Lean hashes anything: it is a label: what it is worth is what the hold of that sum in a sandbox is worth. -/
noncomputable def Try.pinned : Pinned := { name := "ytjhpmeagopdaiaa", sum := "d6217e5ed736a0eb7a58c5195c5c7c10b512dd04ec529ccb49364298a59fc6f8", checked := Try.checked }
namespace Rows
def none {H : Type} : Left H := { results := [], args := [] }

/-- 'lychgatelaw10.MangleTuple': WHATEVER THE INPUT: true; the input reads as it did. -/
def mangleTupleSpec : ChangeSpec := { name := "mangleTuple", fn := fun _ => fun
  | [d1, d2] => { results := [.lit (.bool true)], args := [d1, d2] }
  | _ => none }
def mangleTupleRow : OpenClaim := { program := "ytjhpmeagopdaiaa", sum := "d6217e5ed736a0eb7a58c5195c5c7c10b512dd04ec529ccb49364298a59fc6f8", func := "lychgate/lychgatelaw10.MangleTuple", spec := "mangleTuple", unfollowed := true, recurses := true, apart := false }
def MangleTupleSaid : Prop := mangleTupleRow.holds Try.pinned (OpenSpec.ofChange mangleTupleSpec)

/-- ITS FALSE NEIGHBOUR: 'it returns false'. Refute it at one input. -/
def mangleTupleWrong : ChangeSpec := { name := "mangleTuple", fn := fun _ => fun
  | [d1, d2] => { results := [.lit (.bool false)], args := [d1, d2] }
  | _ => none }
def MangleTupleWrongFalsely : Prop := mangleTupleRow.holds Try.pinned (OpenSpec.ofChange mangleTupleWrong)

/-- 'lychgatelaw10.MangleSelf': WHATEVER THE INPUT: true; the input reads as it did. -/
def mangleSelfSpec : ChangeSpec := { name := "mangleSelf", fn := fun _ => fun
  | [d] => { results := [.lit (.bool true)], args := [d] }
  | _ => none }
def mangleSelfRow : OpenClaim := { program := "ytjhpmeagopdaiaa", sum := "d6217e5ed736a0eb7a58c5195c5c7c10b512dd04ec529ccb49364298a59fc6f8", func := "lychgate/lychgatelaw10.MangleSelf", spec := "mangleSelf", unfollowed := true, recurses := true, apart := false }
def MangleSelfSaid : Prop := mangleSelfRow.holds Try.pinned (OpenSpec.ofChange mangleSelfSpec)

/-- ITS FALSE NEIGHBOUR: 'it returns false'. Refute it at one input. -/
def mangleSelfWrong : ChangeSpec := { name := "mangleSelf", fn := fun _ => fun
  | [d] => { results := [.lit (.bool false)], args := [d] }
  | _ => none }
def MangleSelfWrongFalsely : Prop := mangleSelfRow.holds Try.pinned (OpenSpec.ofChange mangleSelfWrong)

/-- 'lychgatelaw10.MangleBack': WHATEVER THE INPUT: true; the input reads as it did. -/
def mangleBackSpec : ChangeSpec := { name := "mangleBack", fn := fun _ => fun
  | [d1, d2] => { results := [.lit (.bool true)], args := [d1, d2] }
  | _ => none }
def mangleBackRow : OpenClaim := { program := "ytjhpmeagopdaiaa", sum := "d6217e5ed736a0eb7a58c5195c5c7c10b512dd04ec529ccb49364298a59fc6f8", func := "lychgate/lychgatelaw10.MangleBack", spec := "mangleBack", unfollowed := true, recurses := true, apart := false }
def MangleBackSaid : Prop := mangleBackRow.holds Try.pinned (OpenSpec.ofChange mangleBackSpec)

/-- ITS FALSE NEIGHBOUR: 'it returns false'. Refute it at one input. -/
def mangleBackWrong : ChangeSpec := { name := "mangleBack", fn := fun _ => fun
  | [d1, d2] => { results := [.lit (.bool false)], args := [d1, d2] }
  | _ => none }
def MangleBackWrongFalsely : Prop := mangleBackRow.holds Try.pinned (OpenSpec.ofChange mangleBackWrong)

/-- 'lychgatelaw10.MangleTells': WHATEVER THE INPUT: true; the input reads as it did. -/
def mangleTellsSpec : ChangeSpec := { name := "mangleTells", fn := fun _ => fun
  | [d1, d2, d3] => { results := [.lit (.bool true)], args := [d1, d2, d3] }
  | _ => none }
def mangleTellsRow : OpenClaim := { program := "ytjhpmeagopdaiaa", sum := "d6217e5ed736a0eb7a58c5195c5c7c10b512dd04ec529ccb49364298a59fc6f8", func := "lychgate/lychgatelaw10.MangleTells", spec := "mangleTells", unfollowed := true, recurses := true, apart := false }
def MangleTellsSaid : Prop := mangleTellsRow.holds Try.pinned (OpenSpec.ofChange mangleTellsSpec)

/-- ITS FALSE NEIGHBOUR: 'it returns false'. Refute it at one input. -/
def mangleTellsWrong : ChangeSpec := { name := "mangleTells", fn := fun _ => fun
  | [d1, d2, d3] => { results := [.lit (.bool false)], args := [d1, d2, d3] }
  | _ => none }
def MangleTellsWrongFalsely : Prop := mangleTellsRow.holds Try.pinned (OpenSpec.ofChange mangleTellsWrong)

/- THE SECOND FORM. 'bulk': how many values and letters a reading holds, each counted each time it is reached (what is shared counts as often as it is met; a slice's spare places count too). A statement '..UptoSaid' is the law's where the arguments, and the package variables that the reading takes, are together of bulk at most 1048576: NARROWER than '..Said'. Prove '..Said' where nothing that the law and all that it calls make is longer than what came in: it says more and counts as full. Else prove '..UptoSaid'. A law counts once. -/
mutual
def uptoBulk {H : Type} : DataW H → Nat
  | .lit (.string bytes) => bytes.length + 1
  | .lit _ => 1
  | .nil => 1
  | .ptr d => uptoBulk d + 1
  | .slice elems spare => uptoBulkAll elems + uptoBulkAll spare + 1
  | .agg parts => uptoBulkAll parts + 1
  | .iface _ d => uptoBulk d + 1
  | .map entries => uptoBulkEntries entries + 1
  | .held _ => 1
def uptoBulkAll {H : Type} : List (DataW H) → Nat
  | [] => 0
  | d :: r => uptoBulk d + uptoBulkAll r
def uptoBulkEntries {H : Type} : List (Lit × DataW H) → Nat
  | [] => 0
  | x :: r => uptoBulkEntry x + uptoBulkEntries r
def uptoBulkEntry {H : Type} : Lit × DataW H → Nat
  | (.string bytes, d) => bytes.length + uptoBulk d + 1
  | (_, d) => uptoBulk d + 1
 end
def uptoSmall : (H : Type) → List (DataW H) → Bool := fun _ ds => decide (uptoBulkAll ds ≤ 1048576)
def OpenSpec.upto (s : _root_.Go.ChangeSpec) : _root_.Go.OpenSpec := { _root_.Go.OpenSpec.ofChange s with cond := some uptoSmall }

/-- 'lychgatelaw10.MangleTuple', WHERE WHAT IT READS IS OF BULK AT MOST 1048576: true; the input reads as it did. -/
def mangleTupleUptoRow : OpenClaim := { program := "ytjhpmeagopdaiaa", sum := "d6217e5ed736a0eb7a58c5195c5c7c10b512dd04ec529ccb49364298a59fc6f8", func := "lychgate/lychgatelaw10.MangleTuple", spec := "mangleTuple", unfollowed := true, recurses := true, apart := false, narrowed := true }
def MangleTupleUptoSaid : Prop := mangleTupleUptoRow.holds Try.pinned (OpenSpec.upto mangleTupleSpec)

/-- 'lychgatelaw10.MangleSelf', WHERE WHAT IT READS IS OF BULK AT MOST 1048576: true; the input reads as it did. -/
def mangleSelfUptoRow : OpenClaim := { program := "ytjhpmeagopdaiaa", sum := "d6217e5ed736a0eb7a58c5195c5c7c10b512dd04ec529ccb49364298a59fc6f8", func := "lychgate/lychgatelaw10.MangleSelf", spec := "mangleSelf", unfollowed := true, recurses := true, apart := false, narrowed := true }
def MangleSelfUptoSaid : Prop := mangleSelfUptoRow.holds Try.pinned (OpenSpec.upto mangleSelfSpec)

/-- 'lychgatelaw10.MangleBack', WHERE WHAT IT READS IS OF BULK AT MOST 1048576: true; the input reads as it did. -/
def mangleBackUptoRow : OpenClaim := { program := "ytjhpmeagopdaiaa", sum := "d6217e5ed736a0eb7a58c5195c5c7c10b512dd04ec529ccb49364298a59fc6f8", func := "lychgate/lychgatelaw10.MangleBack", spec := "mangleBack", unfollowed := true, recurses := true, apart := false, narrowed := true }
def MangleBackUptoSaid : Prop := mangleBackUptoRow.holds Try.pinned (OpenSpec.upto mangleBackSpec)

/-- 'lychgatelaw10.MangleTells', WHERE WHAT IT READS IS OF BULK AT MOST 1048576: true; the input reads as it did. -/
def mangleTellsUptoRow : OpenClaim := { program := "ytjhpmeagopdaiaa", sum := "d6217e5ed736a0eb7a58c5195c5c7c10b512dd04ec529ccb49364298a59fc6f8", func := "lychgate/lychgatelaw10.MangleTells", spec := "mangleTells", unfollowed := true, recurses := true, apart := false, narrowed := true }
def MangleTellsUptoSaid : Prop := mangleTellsUptoRow.holds Try.pinned (OpenSpec.upto mangleTellsSpec)

end Rows
end Go.Proofs.Ytjhpmeagopdaiaa

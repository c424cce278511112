/-
  No cell of these rows narrows 'for every input' (looked for: loops, veiled, ifaces, maps, wideKeys, modest, calm, conditions, laid).
  DERIVED. THE GIVEN ROWS OF THIS SEAT. 2 by the template 'for every input the law returns true; each argument reads behind the call as it read before'; 0 by the template 'total and deterministic' (their statements: YtjhpmeagopdaiaaGreatTotals.lean).
  GIVEN WITH THE SEED: the statements are not yours to turn. If you find one false, say at which input.
  Laid BY PROGRAM, IN A SANDBOX (cutbox-rows.mjs): the forced cells as the released guide's own fill.sh prints them over the translation ffb29935fdf7610c… (all of the seat's roots in one cut). By AI agents, Wed Nov 11 2026. No macro, syntax, notation, axiom, sorry.
-/
import Derived.Test.YtjhpmeagopdaiaaGreatChecked
import GoSem.Claim
import GoSem.ClaimJoined
import GoSem.ClaimMapViews
import Derived.JoinedTies
import Derived.KernelRfl
namespace Go.Proofs.YtjhpmeagopdaiaaGreat
/- THE CELL 'sum', in the pinned program and in every row, IS THE sha256 OF THE DUMP (.gsa) THAT YtjhpmeagopdaiaaGreatProg.lean LOADS. Nothing in Lean hashes anything: it is a label: what it is worth is what the hold of that sum in a sandbox is worth. -/
noncomputable def Tryz.pinned : Pinned := { name := "ytjhpmeagopdaiaagreat", sum := "ffb29935fdf7610cb762e7037dea3d2ba4b255fd5021e33f71e8bb92d187d477", checked := Tryz.checked }
namespace Rows
def none {H : Type} : Left H := { results := [], args := [] }

/-- 'lychgatelaw10.MangleQuotes': WHATEVER THE INPUT: true; the input reads as it did. -/
def mangleQuotesSpec : ChangeSpec := { name := "mangleQuotes", fn := fun _ => fun
  | [d1, d2, d3] => { results := [.lit (.bool true)], args := [d1, d2, d3] }
  | _ => none }
def mangleQuotesRow : OpenClaim := { program := "ytjhpmeagopdaiaagreat", sum := "ffb29935fdf7610cb762e7037dea3d2ba4b255fd5021e33f71e8bb92d187d477", func := "lychgate/lychgatelaw10.MangleQuotes", spec := "mangleQuotes", unfollowed := true, recurses := true, apart := false }
def MangleQuotesSaid : Prop := mangleQuotesRow.holds Tryz.pinned (OpenSpec.ofChange mangleQuotesSpec)

/-- ITS FALSE NEIGHBOUR: 'it returns false'. Refute it at one input. -/
def mangleQuotesWrong : ChangeSpec := { name := "mangleQuotes", fn := fun _ => fun
  | [d1, d2, d3] => { results := [.lit (.bool false)], args := [d1, d2, d3] }
  | _ => none }
def MangleQuotesWrongFalsely : Prop := mangleQuotesRow.holds Tryz.pinned (OpenSpec.ofChange mangleQuotesWrong)

/-- 'lychgatelaw10.MangleInner': WHATEVER THE INPUT: true; the input reads as it did. -/
def mangleInnerSpec : ChangeSpec := { name := "mangleInner", fn := fun _ => fun
  | [d1, d2] => { results := [.lit (.bool true)], args := [d1, d2] }
  | _ => none }
def mangleInnerRow : OpenClaim := { program := "ytjhpmeagopdaiaagreat", sum := "ffb29935fdf7610cb762e7037dea3d2ba4b255fd5021e33f71e8bb92d187d477", func := "lychgate/lychgatelaw10.MangleInner", spec := "mangleInner", unfollowed := true, recurses := true, apart := false }
def MangleInnerSaid : Prop := mangleInnerRow.holds Tryz.pinned (OpenSpec.ofChange mangleInnerSpec)

/-- ITS FALSE NEIGHBOUR: 'it returns false'. Refute it at one input. -/
def mangleInnerWrong : ChangeSpec := { name := "mangleInner", fn := fun _ => fun
  | [d1, d2] => { results := [.lit (.bool false)], args := [d1, d2] }
  | _ => none }
def MangleInnerWrongFalsely : Prop := mangleInnerRow.holds Tryz.pinned (OpenSpec.ofChange mangleInnerWrong)

/- THE SECOND FORM. 'bulk': how many values and letters a reading holds, each counted each time it is reached (what is shared counts as often as it is met; a slice's spare places count too). A statement '..UptoSaid' is the law's where the arguments, and the package variables that the reading takes, are together of bulk at most 1048576: NARROWER than '..Said'. Prove '..Said' where nothing that the law and all that it calls make is longer than what came in: it says more and counts as full. Else prove '..UptoSaid'. A law counts once. -/
mutual
def uptoBulk {H : Type} : DataW H → Nat
  | .lit (.string bytes) => bytes.length + 1
  | .lit _ => 1
  | .nil => 1
  | .ptr d => uptoBulk d + 1
  | .slice elems spare => uptoBulkAll elems + uptoBulkAll spare + 1
  | .agg parts => uptoBulkAll parts + 1
  | .iface _ d => uptoBulk d + 1
  | .map entries => uptoBulkEntries entries + 1
  | .held _ => 1
def uptoBulkAll {H : Type} : List (DataW H) → Nat
  | [] => 0
  | d :: r => uptoBulk d + uptoBulkAll r
def uptoBulkEntries {H : Type} : List (Lit × DataW H) → Nat
  | [] => 0
  | x :: r => uptoBulkEntry x + uptoBulkEntries r
def uptoBulkEntry {H : Type} : Lit × DataW H → Nat
  | (.string bytes, d) => bytes.length + uptoBulk d + 1
  | (_, d) => uptoBulk d + 1
 end
def uptoSmall : (H : Type) → List (DataW H) → Bool := fun _ ds => decide (uptoBulkAll ds ≤ 1048576)
def OpenSpec.upto (s : _root_.Go.ChangeSpec) : _root_.Go.OpenSpec := { _root_.Go.OpenSpec.ofChange s with cond := some uptoSmall }

/-- 'lychgatelaw10.MangleQuotes', WHERE WHAT IT READS IS OF BULK AT MOST 1048576: true; the input reads as it did. -/
def mangleQuotesUptoRow : OpenClaim := { program := "ytjhpmeagopdaiaagreat", sum := "ffb29935fdf7610cb762e7037dea3d2ba4b255fd5021e33f71e8bb92d187d477", func := "lychgate/lychgatelaw10.MangleQuotes", spec := "mangleQuotes", unfollowed := true, recurses := true, apart := false, narrowed := true }
def MangleQuotesUptoSaid : Prop := mangleQuotesUptoRow.holds Tryz.pinned (OpenSpec.upto mangleQuotesSpec)

/-- 'lychgatelaw10.MangleInner', WHERE WHAT IT READS IS OF BULK AT MOST 1048576: true; the input reads as it did. -/
def mangleInnerUptoRow : OpenClaim := { program := "ytjhpmeagopdaiaagreat", sum := "ffb29935fdf7610cb762e7037dea3d2ba4b255fd5021e33f71e8bb92d187d477", func := "lychgate/lychgatelaw10.MangleInner", spec := "mangleInner", unfollowed := true, recurses := true, apart := false, narrowed := true }
def MangleInnerUptoSaid : Prop := mangleInnerUptoRow.holds Tryz.pinned (OpenSpec.upto mangleInnerSpec)

end Rows
end Go.Proofs.YtjhpmeagopdaiaaGreat

/-
  No cell of these rows narrows 'for every input' (looked for: loops, veiled, ifaces, maps, wideKeys, modest, calm, conditions, laid).
  DERIVED. THE GIVEN ROWS OF THIS SEAT. 11 by the template 'for every input the law returns true; each argument reads behind the call as it read before'; 0 by the template 'total and deterministic' (their statements: YtkjhickjgncheaaTotals.lean).
  GIVEN WITH THE SEED: the statements are not yours to turn. If you find one false, say at which input.
  Laid BY PROGRAM, IN A SANDBOX (cutbox-rows.mjs): the forced cells as the released guide's own fill.sh prints them over the translation 17339d7db03713a7… (all of the seat's roots in one cut). By AI agents, Wed Nov 11 2026. No macro, syntax, notation, axiom, sorry.
-/
import Derived.Test.YtkjhickjgncheaaChecked
import GoSem.Claim
import GoSem.ClaimJoined
import GoSem.ClaimMapViews
import Derived.JoinedTies
import Derived.KernelRfl
namespace Go.Proofs.Ytkjhickjgncheaa
/- THE CELL 'sum', in the pinned program and in every row, IS THE sha256 OF THE DUMP (.gsa) THAT YtkjhickjgncheaaProg.lean LOADS. Nothing in Lean hashes anything: it is a label: what it is worth is what the hold of that sum in a sandbox is worth. -/
noncomputable def Try.pinned : Pinned := { name := "ytkjhickjgncheaa", sum := "17339d7db03713a764c841304098e9bdfc68ed83b530f34813fa9a1fe6f5c4e0", checked := Try.checked }
namespace Rows
def none {H : Type} : Left H := { results := [], args := [] }

/-- 'lychgatelaw02.Ipv4Builds': WHATEVER THE INPUT: true; the input reads as it did. -/
def ipv4BuildsSpec : ChangeSpec := { name := "ipv4Builds", fn := fun _ => fun
  | [d1, d2] => { results := [.lit (.bool true)], args := [d1, d2] }
  | _ => none }
def ipv4BuildsRow : OpenClaim := { program := "ytkjhickjgncheaa", sum := "17339d7db03713a764c841304098e9bdfc68ed83b530f34813fa9a1fe6f5c4e0", func := "lychgate/lychgatelaw02.Ipv4Builds", spec := "ipv4Builds", unfollowed := true, recurses := true, apart := false }
def Ipv4BuildsSaid : Prop := ipv4BuildsRow.holds Try.pinned (OpenSpec.ofChange ipv4BuildsSpec)

/-- ITS FALSE NEIGHBOUR: 'it returns false'. Refute it at one input. -/
def ipv4BuildsWrong : ChangeSpec := { name := "ipv4Builds", fn := fun _ => fun
  | [d1, d2] => { results := [.lit (.bool false)], args := [d1, d2] }
  | _ => none }
def Ipv4BuildsWrongFalsely : Prop := ipv4BuildsRow.holds Try.pinned (OpenSpec.ofChange ipv4BuildsWrong)

/-- 'lychgatelaw02.Ipv4Same': WHATEVER THE INPUT: true; the input reads as it did. -/
def ipv4SameSpec : ChangeSpec := { name := "ipv4Same", fn := fun _ => fun
  | [d1, d2] => { results := [.lit (.bool true)], args := [d1, d2] }
  | _ => none }
def ipv4SameRow : OpenClaim := { program := "ytkjhickjgncheaa", sum := "17339d7db03713a764c841304098e9bdfc68ed83b530f34813fa9a1fe6f5c4e0", func := "lychgate/lychgatelaw02.Ipv4Same", spec := "ipv4Same", unfollowed := true, recurses := true, apart := false }
def Ipv4SameSaid : Prop := ipv4SameRow.holds Try.pinned (OpenSpec.ofChange ipv4SameSpec)

/-- ITS FALSE NEIGHBOUR: 'it returns false'. Refute it at one input. -/
def ipv4SameWrong : ChangeSpec := { name := "ipv4Same", fn := fun _ => fun
  | [d1, d2] => { results := [.lit (.bool false)], args := [d1, d2] }
  | _ => none }
def Ipv4SameWrongFalsely : Prop := ipv4SameRow.holds Try.pinned (OpenSpec.ofChange ipv4SameWrong)

/-- 'lychgatelaw02.Ipv4Parses': WHATEVER THE INPUT: true; the input reads as it did. -/
def ipv4ParsesSpec : ChangeSpec := { name := "ipv4Parses", fn := fun _ => fun
  | [d] => { results := [.lit (.bool true)], args := [d] }
  | _ => none }
def ipv4ParsesRow : OpenClaim := { program := "ytkjhickjgncheaa", sum := "17339d7db03713a764c841304098e9bdfc68ed83b530f34813fa9a1fe6f5c4e0", func := "lychgate/lychgatelaw02.Ipv4Parses", spec := "ipv4Parses", unfollowed := true, recurses := true, apart := false }
def Ipv4ParsesSaid : Prop := ipv4ParsesRow.holds Try.pinned (OpenSpec.ofChange ipv4ParsesSpec)

/-- ITS FALSE NEIGHBOUR: 'it returns false'. Refute it at one input. -/
def ipv4ParsesWrong : ChangeSpec := { name := "ipv4Parses", fn := fun _ => fun
  | [d] => { results := [.lit (.bool false)], args := [d] }
  | _ => none }
def Ipv4ParsesWrongFalsely : Prop := ipv4ParsesRow.holds Try.pinned (OpenSpec.ofChange ipv4ParsesWrong)

/-- 'lychgatelaw02.Ipv4Quotes': WHATEVER THE INPUT: true; the input reads as it did. -/
def ipv4QuotesSpec : ChangeSpec := { name := "ipv4Quotes", fn := fun _ => fun
  | [d] => { results := [.lit (.bool true)], args := [d] }
  | _ => none }
def ipv4QuotesRow : OpenClaim := { program := "ytkjhickjgncheaa", sum := "17339d7db03713a764c841304098e9bdfc68ed83b530f34813fa9a1fe6f5c4e0", func := "lychgate/lychgatelaw02.Ipv4Quotes", spec := "ipv4Quotes", unfollowed := true, recurses := true, apart := false }
def Ipv4QuotesSaid : Prop := ipv4QuotesRow.holds Try.pinned (OpenSpec.ofChange ipv4QuotesSpec)

/-- ITS FALSE NEIGHBOUR: 'it returns false'. Refute it at one input. -/
def ipv4QuotesWrong : ChangeSpec := { name := "ipv4Quotes", fn := fun _ => fun
  | [d] => { results := [.lit (.bool false)], args := [d] }
  | _ => none }
def Ipv4QuotesWrongFalsely : Prop := ipv4QuotesRow.holds Try.pinned (OpenSpec.ofChange ipv4QuotesWrong)

/-- 'lychgatelaw02.Ipv4Back': WHATEVER THE INPUT: true; the input reads as it did. -/
def ipv4BackSpec : ChangeSpec := { name := "ipv4Back", fn := fun _ => fun
  | [d1, d2] => { results := [.lit (.bool true)], args := [d1, d2] }
  | _ => none }
def ipv4BackRow : OpenClaim := { program := "ytkjhickjgncheaa", sum := "17339d7db03713a764c841304098e9bdfc68ed83b530f34813fa9a1fe6f5c4e0", func := "lychgate/lychgatelaw02.Ipv4Back", spec := "ipv4Back", unfollowed := true, recurses := true, apart := false }
def Ipv4BackSaid : Prop := ipv4BackRow.holds Try.pinned (OpenSpec.ofChange ipv4BackSpec)

/-- ITS FALSE NEIGHBOUR: 'it returns false'. Refute it at one input. -/
def ipv4BackWrong : ChangeSpec := { name := "ipv4Back", fn := fun _ => fun
  | [d1, d2] => { results := [.lit (.bool false)], args := [d1, d2] }
  | _ => none }
def Ipv4BackWrongFalsely : Prop := ipv4BackRow.holds Try.pinned (OpenSpec.ofChange ipv4BackWrong)

/-- 'lychgatelaw02.Ipv4Bytes': WHATEVER THE INPUT: true; the input reads as it did. -/
def ipv4BytesSpec : ChangeSpec := { name := "ipv4Bytes", fn := fun _ => fun
  | [d] => { results := [.lit (.bool true)], args := [d] }
  | _ => none }
def ipv4BytesRow : OpenClaim := { program := "ytkjhickjgncheaa", sum := "17339d7db03713a764c841304098e9bdfc68ed83b530f34813fa9a1fe6f5c4e0", func := "lychgate/lychgatelaw02.Ipv4Bytes", spec := "ipv4Bytes", unfollowed := true, recurses := true, apart := false }
def Ipv4BytesSaid : Prop := ipv4BytesRow.holds Try.pinned (OpenSpec.ofChange ipv4BytesSpec)

/-- ITS FALSE NEIGHBOUR: 'it returns false'. Refute it at one input. -/
def ipv4BytesWrong : ChangeSpec := { name := "ipv4Bytes", fn := fun _ => fun
  | [d] => { results := [.lit (.bool false)], args := [d] }
  | _ => none }
def Ipv4BytesWrongFalsely : Prop := ipv4BytesRow.holds Try.pinned (OpenSpec.ofChange ipv4BytesWrong)

/-- 'lychgatelaw02.Ipv4Cuts': WHATEVER THE INPUT: true; the input reads as it did. -/
def ipv4CutsSpec : ChangeSpec := { name := "ipv4Cuts", fn := fun _ => fun
  | [d1, d2] => { results := [.lit (.bool true)], args := [d1, d2] }
  | _ => none }
def ipv4CutsRow : OpenClaim := { program := "ytkjhickjgncheaa", sum := "17339d7db03713a764c841304098e9bdfc68ed83b530f34813fa9a1fe6f5c4e0", func := "lychgate/lychgatelaw02.Ipv4Cuts", spec := "ipv4Cuts", unfollowed := true, recurses := true, apart := false }
def Ipv4CutsSaid : Prop := ipv4CutsRow.holds Try.pinned (OpenSpec.ofChange ipv4CutsSpec)

/-- ITS FALSE NEIGHBOUR: 'it returns false'. Refute it at one input. -/
def ipv4CutsWrong : ChangeSpec := { name := "ipv4Cuts", fn := fun _ => fun
  | [d1, d2] => { results := [.lit (.bool false)], args := [d1, d2] }
  | _ => none }
def Ipv4CutsWrongFalsely : Prop := ipv4CutsRow.holds Try.pinned (OpenSpec.ofChange ipv4CutsWrong)

/-- 'lychgatelaw02.Ipv4Flips': WHATEVER THE INPUT: true; the input reads as it did. -/
def ipv4FlipsSpec : ChangeSpec := { name := "ipv4Flips", fn := fun _ => fun
  | [d1, d2] => { results := [.lit (.bool true)], args := [d1, d2] }
  | _ => none }
def ipv4FlipsRow : OpenClaim := { program := "ytkjhickjgncheaa", sum := "17339d7db03713a764c841304098e9bdfc68ed83b530f34813fa9a1fe6f5c4e0", func := "lychgate/lychgatelaw02.Ipv4Flips", spec := "ipv4Flips", unfollowed := true, recurses := true, apart := false }
def Ipv4FlipsSaid : Prop := ipv4FlipsRow.holds Try.pinned (OpenSpec.ofChange ipv4FlipsSpec)

/-- ITS FALSE NEIGHBOUR: 'it returns false'. Refute it at one input. -/
def ipv4FlipsWrong : ChangeSpec := { name := "ipv4Flips", fn := fun _ => fun
  | [d1, d2] => { results := [.lit (.bool false)], args := [d1, d2] }
  | _ => none }
def Ipv4FlipsWrongFalsely : Prop := ipv4FlipsRow.holds Try.pinned (OpenSpec.ofChange ipv4FlipsWrong)

/-- 'lychgatelaw02.Ipv4Fragments': WHATEVER THE INPUT: true; the input reads as it did. -/
def ipv4FragmentsSpec : ChangeSpec := { name := "ipv4Fragments", fn := fun _ => fun
  | [d1, d2] => { results := [.lit (.bool true)], args := [d1, d2] }
  | _ => none }
def ipv4FragmentsRow : OpenClaim := { program := "ytkjhickjgncheaa", sum := "17339d7db03713a764c841304098e9bdfc68ed83b530f34813fa9a1fe6f5c4e0", func := "lychgate/lychgatelaw02.Ipv4Fragments", spec := "ipv4Fragments", unfollowed := true, recurses := true, apart := false }
def Ipv4FragmentsSaid : Prop := ipv4FragmentsRow.holds Try.pinned (OpenSpec.ofChange ipv4FragmentsSpec)

/-- ITS FALSE NEIGHBOUR: 'it returns false'. Refute it at one input. -/
def ipv4FragmentsWrong : ChangeSpec := { name := "ipv4Fragments", fn := fun _ => fun
  | [d1, d2] => { results := [.lit (.bool false)], args := [d1, d2] }
  | _ => none }
def Ipv4FragmentsWrongFalsely : Prop := ipv4FragmentsRow.holds Try.pinned (OpenSpec.ofChange ipv4FragmentsWrong)

/-- 'lychgatetop.TopHeaders': WHATEVER THE INPUT: true; the input reads as it did. -/
def topHeadersSpec : ChangeSpec := { name := "topHeaders", fn := fun _ => fun
  | [d] => { results := [.lit (.bool true)], args := [d] }
  | _ => none }
def topHeadersRow : OpenClaim := { program := "ytkjhickjgncheaa", sum := "17339d7db03713a764c841304098e9bdfc68ed83b530f34813fa9a1fe6f5c4e0", func := "lychgate/lychgatetop.TopHeaders", spec := "topHeaders", unfollowed := true, recurses := true, apart := false }
def TopHeadersSaid : Prop := topHeadersRow.holds Try.pinned (OpenSpec.ofChange topHeadersSpec)

/-- ITS FALSE NEIGHBOUR: 'it returns false'. Refute it at one input. -/
def topHeadersWrong : ChangeSpec := { name := "topHeaders", fn := fun _ => fun
  | [d] => { results := [.lit (.bool false)], args := [d] }
  | _ => none }
def TopHeadersWrongFalsely : Prop := topHeadersRow.holds Try.pinned (OpenSpec.ofChange topHeadersWrong)

/-- 'lychgatetop.TopHops': WHATEVER THE INPUT: true; the input reads as it did. -/
def topHopsSpec : ChangeSpec := { name := "topHops", fn := fun _ => fun
  | [d] => { results := [.lit (.bool true)], args := [d] }
  | _ => none }
def topHopsRow : OpenClaim := { program := "ytkjhickjgncheaa", sum := "17339d7db03713a764c841304098e9bdfc68ed83b530f34813fa9a1fe6f5c4e0", func := "lychgate/lychgatetop.TopHops", spec := "topHops", unfollowed := true, recurses := true, apart := false }
def TopHopsSaid : Prop := topHopsRow.holds Try.pinned (OpenSpec.ofChange topHopsSpec)

/-- ITS FALSE NEIGHBOUR: 'it returns false'. Refute it at one input. -/
def topHopsWrong : ChangeSpec := { name := "topHops", fn := fun _ => fun
  | [d] => { results := [.lit (.bool false)], args := [d] }
  | _ => none }
def TopHopsWrongFalsely : Prop := topHopsRow.holds Try.pinned (OpenSpec.ofChange topHopsWrong)

/- THE SECOND FORM. 'bulk': how many values and letters a reading holds, each counted each time it is reached (what is shared counts as often as it is met; a slice's spare places count too). A statement '..UptoSaid' is the law's where the arguments, and the package variables that the reading takes, are together of bulk at most 1048576: NARROWER than '..Said'. Prove '..Said' where nothing that the law and all that it calls make is longer than what came in: it says more and counts as full. Else prove '..UptoSaid'. A law counts once. -/
mutual
def uptoBulk {H : Type} : DataW H → Nat
  | .lit (.string bytes) => bytes.length + 1
  | .lit _ => 1
  | .nil => 1
  | .ptr d => uptoBulk d + 1
  | .slice elems spare => uptoBulkAll elems + uptoBulkAll spare + 1
  | .agg parts => uptoBulkAll parts + 1
  | .iface _ d => uptoBulk d + 1
  | .map entries => uptoBulkEntries entries + 1
  | .held _ => 1
def uptoBulkAll {H : Type} : List (DataW H) → Nat
  | [] => 0
  | d :: r => uptoBulk d + uptoBulkAll r
def uptoBulkEntries {H : Type} : List (Lit × DataW H) → Nat
  | [] => 0
  | x :: r => uptoBulkEntry x + uptoBulkEntries r
def uptoBulkEntry {H : Type} : Lit × DataW H → Nat
  | (.string bytes, d) => bytes.length + uptoBulk d + 1
  | (_, d) => uptoBulk d + 1
 end
def uptoSmall : (H : Type) → List (DataW H) → Bool := fun _ ds => decide (uptoBulkAll ds ≤ 1048576)
def OpenSpec.upto (s : _root_.Go.ChangeSpec) : _root_.Go.OpenSpec := { _root_.Go.OpenSpec.ofChange s with cond := some uptoSmall }

/-- 'lychgatelaw02.Ipv4Builds', WHERE WHAT IT READS IS OF BULK AT MOST 1048576: true; the input reads as it did. -/
def ipv4BuildsUptoRow : OpenClaim := { program := "ytkjhickjgncheaa", sum := "17339d7db03713a764c841304098e9bdfc68ed83b530f34813fa9a1fe6f5c4e0", func := "lychgate/lychgatelaw02.Ipv4Builds", spec := "ipv4Builds", unfollowed := true, recurses := true, apart := false, narrowed := true }
def Ipv4BuildsUptoSaid : Prop := ipv4BuildsUptoRow.holds Try.pinned (OpenSpec.upto ipv4BuildsSpec)

/-- 'lychgatelaw02.Ipv4Same', WHERE WHAT IT READS IS OF BULK AT MOST 1048576: true; the input reads as it did. -/
def ipv4SameUptoRow : OpenClaim := { program := "ytkjhickjgncheaa", sum := "17339d7db03713a764c841304098e9bdfc68ed83b530f34813fa9a1fe6f5c4e0", func := "lychgate/lychgatelaw02.Ipv4Same", spec := "ipv4Same", unfollowed := true, recurses := true, apart := false, narrowed := true }
def Ipv4SameUptoSaid : Prop := ipv4SameUptoRow.holds Try.pinned (OpenSpec.upto ipv4SameSpec)

/-- 'lychgatelaw02.Ipv4Parses', WHERE WHAT IT READS IS OF BULK AT MOST 1048576: true; the input reads as it did. -/
def ipv4ParsesUptoRow : OpenClaim := { program := "ytkjhickjgncheaa", sum := "17339d7db03713a764c841304098e9bdfc68ed83b530f34813fa9a1fe6f5c4e0", func := "lychgate/lychgatelaw02.Ipv4Parses", spec := "ipv4Parses", unfollowed := true, recurses := true, apart := false, narrowed := true }
def Ipv4ParsesUptoSaid : Prop := ipv4ParsesUptoRow.holds Try.pinned (OpenSpec.upto ipv4ParsesSpec)

/-- 'lychgatelaw02.Ipv4Quotes', WHERE WHAT IT READS IS OF BULK AT MOST 1048576: true; the input reads as it did. -/
def ipv4QuotesUptoRow : OpenClaim := { program := "ytkjhickjgncheaa", sum := "17339d7db03713a764c841304098e9bdfc68ed83b530f34813fa9a1fe6f5c4e0", func := "lychgate/lychgatelaw02.Ipv4Quotes", spec := "ipv4Quotes", unfollowed := true, recurses := true, apart := false, narrowed := true }
def Ipv4QuotesUptoSaid : Prop := ipv4QuotesUptoRow.holds Try.pinned (OpenSpec.upto ipv4QuotesSpec)

/-- 'lychgatelaw02.Ipv4Back', WHERE WHAT IT READS IS OF BULK AT MOST 1048576: true; the input reads as it did. -/
def ipv4BackUptoRow : OpenClaim := { program := "ytkjhickjgncheaa", sum := "17339d7db03713a764c841304098e9bdfc68ed83b530f34813fa9a1fe6f5c4e0", func := "lychgate/lychgatelaw02.Ipv4Back", spec := "ipv4Back", unfollowed := true, recurses := true, apart := false, narrowed := true }
def Ipv4BackUptoSaid : Prop := ipv4BackUptoRow.holds Try.pinned (OpenSpec.upto ipv4BackSpec)

/-- 'lychgatelaw02.Ipv4Bytes', WHERE WHAT IT READS IS OF BULK AT MOST 1048576: true; the input reads as it did. -/
def ipv4BytesUptoRow : OpenClaim := { program := "ytkjhickjgncheaa", sum := "17339d7db03713a764c841304098e9bdfc68ed83b530f34813fa9a1fe6f5c4e0", func := "lychgate/lychgatelaw02.Ipv4Bytes", spec := "ipv4Bytes", unfollowed := true, recurses := true, apart := false, narrowed := true }
def Ipv4BytesUptoSaid : Prop := ipv4BytesUptoRow.holds Try.pinned (OpenSpec.upto ipv4BytesSpec)

/-- 'lychgatelaw02.Ipv4Cuts', WHERE WHAT IT READS IS OF BULK AT MOST 1048576: true; the input reads as it did. -/
def ipv4CutsUptoRow : OpenClaim := { program := "ytkjhickjgncheaa", sum := "17339d7db03713a764c841304098e9bdfc68ed83b530f34813fa9a1fe6f5c4e0", func := "lychgate/lychgatelaw02.Ipv4Cuts", spec := "ipv4Cuts", unfollowed := true, recurses := true, apart := false, narrowed := true }
def Ipv4CutsUptoSaid : Prop := ipv4CutsUptoRow.holds Try.pinned (OpenSpec.upto ipv4CutsSpec)

/-- 'lychgatelaw02.Ipv4Flips', WHERE WHAT IT READS IS OF BULK AT MOST 1048576: true; the input reads as it did. -/
def ipv4FlipsUptoRow : OpenClaim := { program := "ytkjhickjgncheaa", sum := "17339d7db03713a764c841304098e9bdfc68ed83b530f34813fa9a1fe6f5c4e0", func := "lychgate/lychgatelaw02.Ipv4Flips", spec := "ipv4Flips", unfollowed := true, recurses := true, apart := false, narrowed := true }
def Ipv4FlipsUptoSaid : Prop := ipv4FlipsUptoRow.holds Try.pinned (OpenSpec.upto ipv4FlipsSpec)

/-- 'lychgatelaw02.Ipv4Fragments', WHERE WHAT IT READS IS OF BULK AT MOST 1048576: true; the input reads as it did. -/
def ipv4FragmentsUptoRow : OpenClaim := { program := "ytkjhickjgncheaa", sum := "17339d7db03713a764c841304098e9bdfc68ed83b530f34813fa9a1fe6f5c4e0", func := "lychgate/lychgatelaw02.Ipv4Fragments", spec := "ipv4Fragments", unfollowed := true, recurses := true, apart := false, narrowed := true }
def Ipv4FragmentsUptoSaid : Prop := ipv4FragmentsUptoRow.holds Try.pinned (OpenSpec.upto ipv4FragmentsSpec)

/-- 'lychgatetop.TopHeaders', WHERE WHAT IT READS IS OF BULK AT MOST 1048576: true; the input reads as it did. -/
def topHeadersUptoRow : OpenClaim := { program := "ytkjhickjgncheaa", sum := "17339d7db03713a764c841304098e9bdfc68ed83b530f34813fa9a1fe6f5c4e0", func := "lychgate/lychgatetop.TopHeaders", spec := "topHeaders", unfollowed := true, recurses := true, apart := false, narrowed := true }
def TopHeadersUptoSaid : Prop := topHeadersUptoRow.holds Try.pinned (OpenSpec.upto topHeadersSpec)

/-- 'lychgatetop.TopHops', WHERE WHAT IT READS IS OF BULK AT MOST 1048576: true; the input reads as it did. -/
def topHopsUptoRow : OpenClaim := { program := "ytkjhickjgncheaa", sum := "17339d7db03713a764c841304098e9bdfc68ed83b530f34813fa9a1fe6f5c4e0", func := "lychgate/lychgatetop.TopHops", spec := "topHops", unfollowed := true, recurses := true, apart := false, narrowed := true }
def TopHopsUptoSaid : Prop := topHopsUptoRow.holds Try.pinned (OpenSpec.upto topHopsSpec)

end Rows
end Go.Proofs.Ytkjhickjgncheaa

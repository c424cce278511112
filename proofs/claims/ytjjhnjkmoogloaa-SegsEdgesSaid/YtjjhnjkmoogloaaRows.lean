/-
  No cell of these rows narrows 'for every input' (looked for: loops, veiled, ifaces, maps, wideKeys, modest, calm, conditions, laid).
  DERIVED. THE GIVEN ROWS OF THIS SEAT. 11 by the template 'for every input the law returns true; each argument reads behind the call as it read before'; 0 by the template 'total and deterministic' (their statements: YtjjhnjkmoogloaaTotals.lean).
  GIVEN WITH THE SEED: the statements are not yours to turn. If you find one false, say at which input.
  Laid BY PROGRAM, IN A SANDBOX (cutbox-rows.mjs): the forced cells as the released guide's own fill.sh prints them over the translation 97a523768598ef3d… (all of the seat's roots in one cut). By AI agents, Wed Nov 11 2026. No macro, syntax, notation, axiom, sorry.
-/
import Derived.Test.YtjjhnjkmoogloaaChecked
import GoSem.Claim
import GoSem.ClaimJoined
import GoSem.ClaimMapViews
import Derived.JoinedTies
import Derived.KernelRfl
namespace Go.Proofs.Ytjjhnjkmoogloaa
/- THE CELL 'sum', in the pinned program and in every row, IS THE sha256 OF THE DUMP (.gsa) THAT YtjjhnjkmoogloaaProg.lean LOADS. Nothing in Lean hashes anything: it is a label: what it is worth is what the hold of that sum in a sandbox is worth. -/
noncomputable def Try.pinned : Pinned := { name := "ytjjhnjkmoogloaa", sum := "97a523768598ef3df3f9341927b4766a5d02a42e2fcd47a42686c2ef0bf9c365", checked := Try.checked }
namespace Rows
def none {H : Type} : Left H := { results := [], args := [] }

/-- 'lychgatelaw03.SegsTcp': WHATEVER THE INPUT: true; the input reads as it did. -/
def segsTcpSpec : ChangeSpec := { name := "segsTcp", fn := fun _ => fun
  | [d] => { results := [.lit (.bool true)], args := [d] }
  | _ => none }
def segsTcpRow : OpenClaim := { program := "ytjjhnjkmoogloaa", sum := "97a523768598ef3df3f9341927b4766a5d02a42e2fcd47a42686c2ef0bf9c365", func := "lychgate/lychgatelaw03.SegsTcp", spec := "segsTcp", unfollowed := true, recurses := true, apart := false }
def SegsTcpSaid : Prop := segsTcpRow.holds Try.pinned (OpenSpec.ofChange segsTcpSpec)

/-- ITS FALSE NEIGHBOUR: 'it returns false'. Refute it at one input. -/
def segsTcpWrong : ChangeSpec := { name := "segsTcp", fn := fun _ => fun
  | [d] => { results := [.lit (.bool false)], args := [d] }
  | _ => none }
def SegsTcpWrongFalsely : Prop := segsTcpRow.holds Try.pinned (OpenSpec.ofChange segsTcpWrong)

/-- 'lychgatelaw03.SegsBuilds': WHATEVER THE INPUT: true; the input reads as it did. -/
def segsBuildsSpec : ChangeSpec := { name := "segsBuilds", fn := fun _ => fun
  | [d1, d2, d3] => { results := [.lit (.bool true)], args := [d1, d2, d3] }
  | _ => none }
def segsBuildsRow : OpenClaim := { program := "ytjjhnjkmoogloaa", sum := "97a523768598ef3df3f9341927b4766a5d02a42e2fcd47a42686c2ef0bf9c365", func := "lychgate/lychgatelaw03.SegsBuilds", spec := "segsBuilds", unfollowed := true, recurses := true, apart := false }
def SegsBuildsSaid : Prop := segsBuildsRow.holds Try.pinned (OpenSpec.ofChange segsBuildsSpec)

/-- ITS FALSE NEIGHBOUR: 'it returns false'. Refute it at one input. -/
def segsBuildsWrong : ChangeSpec := { name := "segsBuilds", fn := fun _ => fun
  | [d1, d2, d3] => { results := [.lit (.bool false)], args := [d1, d2, d3] }
  | _ => none }
def SegsBuildsWrongFalsely : Prop := segsBuildsRow.holds Try.pinned (OpenSpec.ofChange segsBuildsWrong)

/-- 'lychgatelaw03.SegsFlips': WHATEVER THE INPUT: true; the input reads as it did. -/
def segsFlipsSpec : ChangeSpec := { name := "segsFlips", fn := fun _ => fun
  | [d1, d2, d3] => { results := [.lit (.bool true)], args := [d1, d2, d3] }
  | _ => none }
def segsFlipsRow : OpenClaim := { program := "ytjjhnjkmoogloaa", sum := "97a523768598ef3df3f9341927b4766a5d02a42e2fcd47a42686c2ef0bf9c365", func := "lychgate/lychgatelaw03.SegsFlips", spec := "segsFlips", unfollowed := true, recurses := true, apart := false }
def SegsFlipsSaid : Prop := segsFlipsRow.holds Try.pinned (OpenSpec.ofChange segsFlipsSpec)

/-- ITS FALSE NEIGHBOUR: 'it returns false'. Refute it at one input. -/
def segsFlipsWrong : ChangeSpec := { name := "segsFlips", fn := fun _ => fun
  | [d1, d2, d3] => { results := [.lit (.bool false)], args := [d1, d2, d3] }
  | _ => none }
def SegsFlipsWrongFalsely : Prop := segsFlipsRow.holds Try.pinned (OpenSpec.ofChange segsFlipsWrong)

/-- 'lychgatelaw03.SegsWhere': WHATEVER THE INPUT: true; the input reads as it did. -/
def segsWhereSpec : ChangeSpec := { name := "segsWhere", fn := fun _ => fun
  | [d1, d2, d3] => { results := [.lit (.bool true)], args := [d1, d2, d3] }
  | _ => none }
def segsWhereRow : OpenClaim := { program := "ytjjhnjkmoogloaa", sum := "97a523768598ef3df3f9341927b4766a5d02a42e2fcd47a42686c2ef0bf9c365", func := "lychgate/lychgatelaw03.SegsWhere", spec := "segsWhere", unfollowed := true, recurses := true, apart := false }
def SegsWhereSaid : Prop := segsWhereRow.holds Try.pinned (OpenSpec.ofChange segsWhereSpec)

/-- ITS FALSE NEIGHBOUR: 'it returns false'. Refute it at one input. -/
def segsWhereWrong : ChangeSpec := { name := "segsWhere", fn := fun _ => fun
  | [d1, d2, d3] => { results := [.lit (.bool false)], args := [d1, d2, d3] }
  | _ => none }
def SegsWhereWrongFalsely : Prop := segsWhereRow.holds Try.pinned (OpenSpec.ofChange segsWhereWrong)

/-- 'lychgatelaw03.SegsSacks': WHATEVER THE INPUT: true; the input reads as it did. -/
def segsSacksSpec : ChangeSpec := { name := "segsSacks", fn := fun _ => fun
  | [d1, d2] => { results := [.lit (.bool true)], args := [d1, d2] }
  | _ => none }
def segsSacksRow : OpenClaim := { program := "ytjjhnjkmoogloaa", sum := "97a523768598ef3df3f9341927b4766a5d02a42e2fcd47a42686c2ef0bf9c365", func := "lychgate/lychgatelaw03.SegsSacks", spec := "segsSacks", unfollowed := true, recurses := true, apart := false }
def SegsSacksSaid : Prop := segsSacksRow.holds Try.pinned (OpenSpec.ofChange segsSacksSpec)

/-- ITS FALSE NEIGHBOUR: 'it returns false'. Refute it at one input. -/
def segsSacksWrong : ChangeSpec := { name := "segsSacks", fn := fun _ => fun
  | [d1, d2] => { results := [.lit (.bool false)], args := [d1, d2] }
  | _ => none }
def SegsSacksWrongFalsely : Prop := segsSacksRow.holds Try.pinned (OpenSpec.ofChange segsSacksWrong)

/-- 'lychgatelaw03.SegsEdges': WHATEVER THE INPUT: true; the input reads as it did. -/
def segsEdgesSpec : ChangeSpec := { name := "segsEdges", fn := fun _ => fun
  | [d1, d2] => { results := [.lit (.bool true)], args := [d1, d2] }
  | _ => none }
def segsEdgesRow : OpenClaim := { program := "ytjjhnjkmoogloaa", sum := "97a523768598ef3df3f9341927b4766a5d02a42e2fcd47a42686c2ef0bf9c365", func := "lychgate/lychgatelaw03.SegsEdges", spec := "segsEdges", unfollowed := true, recurses := true, apart := false }
def SegsEdgesSaid : Prop := segsEdgesRow.holds Try.pinned (OpenSpec.ofChange segsEdgesSpec)

/-- ITS FALSE NEIGHBOUR: 'it returns false'. Refute it at one input. -/
def segsEdgesWrong : ChangeSpec := { name := "segsEdges", fn := fun _ => fun
  | [d1, d2] => { results := [.lit (.bool false)], args := [d1, d2] }
  | _ => none }
def SegsEdgesWrongFalsely : Prop := segsEdgesRow.holds Try.pinned (OpenSpec.ofChange segsEdgesWrong)

/-- 'lychgatelaw03.SegsUdp': WHATEVER THE INPUT: true; the input reads as it did. -/
def segsUdpSpec : ChangeSpec := { name := "segsUdp", fn := fun _ => fun
  | [d] => { results := [.lit (.bool true)], args := [d] }
  | _ => none }
def segsUdpRow : OpenClaim := { program := "ytjjhnjkmoogloaa", sum := "97a523768598ef3df3f9341927b4766a5d02a42e2fcd47a42686c2ef0bf9c365", func := "lychgate/lychgatelaw03.SegsUdp", spec := "segsUdp", unfollowed := true, recurses := true, apart := false }
def SegsUdpSaid : Prop := segsUdpRow.holds Try.pinned (OpenSpec.ofChange segsUdpSpec)

/-- ITS FALSE NEIGHBOUR: 'it returns false'. Refute it at one input. -/
def segsUdpWrong : ChangeSpec := { name := "segsUdp", fn := fun _ => fun
  | [d] => { results := [.lit (.bool false)], args := [d] }
  | _ => none }
def SegsUdpWrongFalsely : Prop := segsUdpRow.holds Try.pinned (OpenSpec.ofChange segsUdpWrong)

/-- 'lychgatelaw03.SegsBack': WHATEVER THE INPUT: true; the input reads as it did. -/
def segsBackSpec : ChangeSpec := { name := "segsBack", fn := fun _ => fun
  | [d1, d2, d3] => { results := [.lit (.bool true)], args := [d1, d2, d3] }
  | _ => none }
def segsBackRow : OpenClaim := { program := "ytjjhnjkmoogloaa", sum := "97a523768598ef3df3f9341927b4766a5d02a42e2fcd47a42686c2ef0bf9c365", func := "lychgate/lychgatelaw03.SegsBack", spec := "segsBack", unfollowed := true, recurses := true, apart := false }
def SegsBackSaid : Prop := segsBackRow.holds Try.pinned (OpenSpec.ofChange segsBackSpec)

/-- ITS FALSE NEIGHBOUR: 'it returns false'. Refute it at one input. -/
def segsBackWrong : ChangeSpec := { name := "segsBack", fn := fun _ => fun
  | [d1, d2, d3] => { results := [.lit (.bool false)], args := [d1, d2, d3] }
  | _ => none }
def SegsBackWrongFalsely : Prop := segsBackRow.holds Try.pinned (OpenSpec.ofChange segsBackWrong)

/-- 'lychgatelaw03.SegsBare': WHATEVER THE INPUT: true; the input reads as it did. -/
def segsBareSpec : ChangeSpec := { name := "segsBare", fn := fun _ => fun
  | [d1, d2, d3] => { results := [.lit (.bool true)], args := [d1, d2, d3] }
  | _ => none }
def segsBareRow : OpenClaim := { program := "ytjjhnjkmoogloaa", sum := "97a523768598ef3df3f9341927b4766a5d02a42e2fcd47a42686c2ef0bf9c365", func := "lychgate/lychgatelaw03.SegsBare", spec := "segsBare", unfollowed := true, recurses := true, apart := false }
def SegsBareSaid : Prop := segsBareRow.holds Try.pinned (OpenSpec.ofChange segsBareSpec)

/-- ITS FALSE NEIGHBOUR: 'it returns false'. Refute it at one input. -/
def segsBareWrong : ChangeSpec := { name := "segsBare", fn := fun _ => fun
  | [d1, d2, d3] => { results := [.lit (.bool false)], args := [d1, d2, d3] }
  | _ => none }
def SegsBareWrongFalsely : Prop := segsBareRow.holds Try.pinned (OpenSpec.ofChange segsBareWrong)

/-- 'lychgatelaw03.SegsSame': WHATEVER THE INPUT: true; the input reads as it did. -/
def segsSameSpec : ChangeSpec := { name := "segsSame", fn := fun _ => fun
  | [d1, d2, d3] => { results := [.lit (.bool true)], args := [d1, d2, d3] }
  | _ => none }
def segsSameRow : OpenClaim := { program := "ytjjhnjkmoogloaa", sum := "97a523768598ef3df3f9341927b4766a5d02a42e2fcd47a42686c2ef0bf9c365", func := "lychgate/lychgatelaw03.SegsSame", spec := "segsSame", unfollowed := true, recurses := true, apart := false }
def SegsSameSaid : Prop := segsSameRow.holds Try.pinned (OpenSpec.ofChange segsSameSpec)

/-- ITS FALSE NEIGHBOUR: 'it returns false'. Refute it at one input. -/
def segsSameWrong : ChangeSpec := { name := "segsSame", fn := fun _ => fun
  | [d1, d2, d3] => { results := [.lit (.bool false)], args := [d1, d2, d3] }
  | _ => none }
def SegsSameWrongFalsely : Prop := segsSameRow.holds Try.pinned (OpenSpec.ofChange segsSameWrong)

/-- 'lychgatetop.TopSegments': WHATEVER THE INPUT: true; the input reads as it did. -/
def topSegmentsSpec : ChangeSpec := { name := "topSegments", fn := fun _ => fun
  | [d1, d2] => { results := [.lit (.bool true)], args := [d1, d2] }
  | _ => none }
def topSegmentsRow : OpenClaim := { program := "ytjjhnjkmoogloaa", sum := "97a523768598ef3df3f9341927b4766a5d02a42e2fcd47a42686c2ef0bf9c365", func := "lychgate/lychgatetop.TopSegments", spec := "topSegments", unfollowed := true, recurses := true, apart := false }
def TopSegmentsSaid : Prop := topSegmentsRow.holds Try.pinned (OpenSpec.ofChange topSegmentsSpec)

/-- ITS FALSE NEIGHBOUR: 'it returns false'. Refute it at one input. -/
def topSegmentsWrong : ChangeSpec := { name := "topSegments", fn := fun _ => fun
  | [d1, d2] => { results := [.lit (.bool false)], args := [d1, d2] }
  | _ => none }
def TopSegmentsWrongFalsely : Prop := topSegmentsRow.holds Try.pinned (OpenSpec.ofChange topSegmentsWrong)

/- THE SECOND FORM. 'bulk': how many values and letters a reading holds, each counted each time it is reached (what is shared counts as often as it is met; a slice's spare places count too). A statement '..UptoSaid' is the law's where the arguments, and the package variables that the reading takes, are together of bulk at most 1048576: NARROWER than '..Said'. Prove '..Said' where nothing that the law and all that it calls make is longer than what came in: it says more and counts as full. Else prove '..UptoSaid'. A law counts once. -/
mutual
def uptoBulk {H : Type} : DataW H → Nat
  | .lit (.string bytes) => bytes.length + 1
  | .lit _ => 1
  | .nil => 1
  | .ptr d => uptoBulk d + 1
  | .slice elems spare => uptoBulkAll elems + uptoBulkAll spare + 1
  | .agg parts => uptoBulkAll parts + 1
  | .iface _ d => uptoBulk d + 1
  | .map entries => uptoBulkEntries entries + 1
  | .held _ => 1
def uptoBulkAll {H : Type} : List (DataW H) → Nat
  | [] => 0
  | d :: r => uptoBulk d + uptoBulkAll r
def uptoBulkEntries {H : Type} : List (Lit × DataW H) → Nat
  | [] => 0
  | x :: r => uptoBulkEntry x + uptoBulkEntries r
def uptoBulkEntry {H : Type} : Lit × DataW H → Nat
  | (.string bytes, d) => bytes.length + uptoBulk d + 1
  | (_, d) => uptoBulk d + 1
 end
def uptoSmall : (H : Type) → List (DataW H) → Bool := fun _ ds => decide (uptoBulkAll ds ≤ 1048576)
def OpenSpec.upto (s : _root_.Go.ChangeSpec) : _root_.Go.OpenSpec := { _root_.Go.OpenSpec.ofChange s with cond := some uptoSmall }

/-- 'lychgatelaw03.SegsTcp', WHERE WHAT IT READS IS OF BULK AT MOST 1048576: true; the input reads as it did. -/
def segsTcpUptoRow : OpenClaim := { program := "ytjjhnjkmoogloaa", sum := "97a523768598ef3df3f9341927b4766a5d02a42e2fcd47a42686c2ef0bf9c365", func := "lychgate/lychgatelaw03.SegsTcp", spec := "segsTcp", unfollowed := true, recurses := true, apart := false, narrowed := true }
def SegsTcpUptoSaid : Prop := segsTcpUptoRow.holds Try.pinned (OpenSpec.upto segsTcpSpec)

/-- 'lychgatelaw03.SegsBuilds', WHERE WHAT IT READS IS OF BULK AT MOST 1048576: true; the input reads as it did. -/
def segsBuildsUptoRow : OpenClaim := { program := "ytjjhnjkmoogloaa", sum := "97a523768598ef3df3f9341927b4766a5d02a42e2fcd47a42686c2ef0bf9c365", func := "lychgate/lychgatelaw03.SegsBuilds", spec := "segsBuilds", unfollowed := true, recurses := true, apart := false, narrowed := true }
def SegsBuildsUptoSaid : Prop := segsBuildsUptoRow.holds Try.pinned (OpenSpec.upto segsBuildsSpec)

/-- 'lychgatelaw03.SegsFlips', WHERE WHAT IT READS IS OF BULK AT MOST 1048576: true; the input reads as it did. -/
def segsFlipsUptoRow : OpenClaim := { program := "ytjjhnjkmoogloaa", sum := "97a523768598ef3df3f9341927b4766a5d02a42e2fcd47a42686c2ef0bf9c365", func := "lychgate/lychgatelaw03.SegsFlips", spec := "segsFlips", unfollowed := true, recurses := true, apart := false, narrowed := true }
def SegsFlipsUptoSaid : Prop := segsFlipsUptoRow.holds Try.pinned (OpenSpec.upto segsFlipsSpec)

/-- 'lychgatelaw03.SegsWhere', WHERE WHAT IT READS IS OF BULK AT MOST 1048576: true; the input reads as it did. -/
def segsWhereUptoRow : OpenClaim := { program := "ytjjhnjkmoogloaa", sum := "97a523768598ef3df3f9341927b4766a5d02a42e2fcd47a42686c2ef0bf9c365", func := "lychgate/lychgatelaw03.SegsWhere", spec := "segsWhere", unfollowed := true, recurses := true, apart := false, narrowed := true }
def SegsWhereUptoSaid : Prop := segsWhereUptoRow.holds Try.pinned (OpenSpec.upto segsWhereSpec)

/-- 'lychgatelaw03.SegsSacks', WHERE WHAT IT READS IS OF BULK AT MOST 1048576: true; the input reads as it did. -/
def segsSacksUptoRow : OpenClaim := { program := "ytjjhnjkmoogloaa", sum := "97a523768598ef3df3f9341927b4766a5d02a42e2fcd47a42686c2ef0bf9c365", func := "lychgate/lychgatelaw03.SegsSacks", spec := "segsSacks", unfollowed := true, recurses := true, apart := false, narrowed := true }
def SegsSacksUptoSaid : Prop := segsSacksUptoRow.holds Try.pinned (OpenSpec.upto segsSacksSpec)

/-- 'lychgatelaw03.SegsEdges', WHERE WHAT IT READS IS OF BULK AT MOST 1048576: true; the input reads as it did. -/
def segsEdgesUptoRow : OpenClaim := { program := "ytjjhnjkmoogloaa", sum := "97a523768598ef3df3f9341927b4766a5d02a42e2fcd47a42686c2ef0bf9c365", func := "lychgate/lychgatelaw03.SegsEdges", spec := "segsEdges", unfollowed := true, recurses := true, apart := false, narrowed := true }
def SegsEdgesUptoSaid : Prop := segsEdgesUptoRow.holds Try.pinned (OpenSpec.upto segsEdgesSpec)

/-- 'lychgatelaw03.SegsUdp', WHERE WHAT IT READS IS OF BULK AT MOST 1048576: true; the input reads as it did. -/
def segsUdpUptoRow : OpenClaim := { program := "ytjjhnjkmoogloaa", sum := "97a523768598ef3df3f9341927b4766a5d02a42e2fcd47a42686c2ef0bf9c365", func := "lychgate/lychgatelaw03.SegsUdp", spec := "segsUdp", unfollowed := true, recurses := true, apart := false, narrowed := true }
def SegsUdpUptoSaid : Prop := segsUdpUptoRow.holds Try.pinned (OpenSpec.upto segsUdpSpec)

/-- 'lychgatelaw03.SegsBack', WHERE WHAT IT READS IS OF BULK AT MOST 1048576: true; the input reads as it did. -/
def segsBackUptoRow : OpenClaim := { program := "ytjjhnjkmoogloaa", sum := "97a523768598ef3df3f9341927b4766a5d02a42e2fcd47a42686c2ef0bf9c365", func := "lychgate/lychgatelaw03.SegsBack", spec := "segsBack", unfollowed := true, recurses := true, apart := false, narrowed := true }
def SegsBackUptoSaid : Prop := segsBackUptoRow.holds Try.pinned (OpenSpec.upto segsBackSpec)

/-- 'lychgatelaw03.SegsBare', WHERE WHAT IT READS IS OF BULK AT MOST 1048576: true; the input reads as it did. -/
def segsBareUptoRow : OpenClaim := { program := "ytjjhnjkmoogloaa", sum := "97a523768598ef3df3f9341927b4766a5d02a42e2fcd47a42686c2ef0bf9c365", func := "lychgate/lychgatelaw03.SegsBare", spec := "segsBare", unfollowed := true, recurses := true, apart := false, narrowed := true }
def SegsBareUptoSaid : Prop := segsBareUptoRow.holds Try.pinned (OpenSpec.upto segsBareSpec)

/-- 'lychgatelaw03.SegsSame', WHERE WHAT IT READS IS OF BULK AT MOST 1048576: true; the input reads as it did. -/
def segsSameUptoRow : OpenClaim := { program := "ytjjhnjkmoogloaa", sum := "97a523768598ef3df3f9341927b4766a5d02a42e2fcd47a42686c2ef0bf9c365", func := "lychgate/lychgatelaw03.SegsSame", spec := "segsSame", unfollowed := true, recurses := true, apart := false, narrowed := true }
def SegsSameUptoSaid : Prop := segsSameUptoRow.holds Try.pinned (OpenSpec.upto segsSameSpec)

/-- 'lychgatetop.TopSegments', WHERE WHAT IT READS IS OF BULK AT MOST 1048576: true; the input reads as it did. -/
def topSegmentsUptoRow : OpenClaim := { program := "ytjjhnjkmoogloaa", sum := "97a523768598ef3df3f9341927b4766a5d02a42e2fcd47a42686c2ef0bf9c365", func := "lychgate/lychgatetop.TopSegments", spec := "topSegments", unfollowed := true, recurses := true, apart := false, narrowed := true }
def TopSegmentsUptoSaid : Prop := topSegmentsUptoRow.holds Try.pinned (OpenSpec.upto topSegmentsSpec)

end Rows
end Go.Proofs.Ytjjhnjkmoogloaa

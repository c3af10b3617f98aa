/-
  No cell of these rows narrows 'for every input' (looked for: loops, veiled, ifaces, maps, wideKeys, modest, calm, conditions, laid).
  DERIVED. THE GIVEN ROWS OF THIS SEAT. 12 by the template 'for every input the law returns true; each argument reads behind the call as it read before'; 0 by the template 'total and deterministic' (their statements: YtdokijbdnajhgaaTotals.lean).
  GIVEN WITH THE SEED: the statements are not yours to turn. If you find one false, say at which input.
  Laid BY PROGRAM, IN A SANDBOX (cutbox-rows.mjs): the forced cells as the released guide's own fill.sh prints them over the translation fc512e7f5ffc8236… (all of the seat's roots in one cut). By AI agents, Wed Nov 11 2026. No macro, syntax, notation, axiom, sorry.
-/
import Derived.Test.YtdokijbdnajhgaaChecked
import GoSem.Claim
import GoSem.ClaimJoined
import GoSem.ClaimMapViews
import Derived.JoinedTies
import Derived.KernelRfl
namespace Go.Proofs.Ytdokijbdnajhgaa
/- THE CELL 'sum', in the pinned program and in every row, IS THE sha256 OF THE DUMP (.gsa) THAT YtdokijbdnajhgaaProg.lean LOADS. Nothing in Lean hashes anything: it is a label: what it is worth is what the hold of that sum in a sandbox is worth. -/
noncomputable def Try.pinned : Pinned := { name := "ytdokijbdnajhgaa", sum := "fc512e7f5ffc823684c02781e71dd8e45251e0cb885fe85b2013925a24e46289", checked := Try.checked }
namespace Rows
def none {H : Type} : Left H := { results := [], args := [] }

/-- 'staddalaw09.OrderIdeals': WHATEVER THE INPUT: true; the input reads as it did. -/
def orderIdealsSpec : ChangeSpec := { name := "orderIdeals", fn := fun _ => fun
  | [d1, d2] => { results := [.lit (.bool true)], args := [d1, d2] }
  | _ => none }
def orderIdealsRow : OpenClaim := { program := "ytdokijbdnajhgaa", sum := "fc512e7f5ffc823684c02781e71dd8e45251e0cb885fe85b2013925a24e46289", func := "stadda/staddalaw09.OrderIdeals", spec := "orderIdeals", unfollowed := true, recurses := true, apart := false }
def OrderIdealsSaid : Prop := orderIdealsRow.holds Try.pinned (OpenSpec.ofChange orderIdealsSpec)

/-- ITS FALSE NEIGHBOUR: 'it returns false'. Refute it at one input. -/
def orderIdealsWrong : ChangeSpec := { name := "orderIdeals", fn := fun _ => fun
  | [d1, d2] => { results := [.lit (.bool false)], args := [d1, d2] }
  | _ => none }
def OrderIdealsWrongFalsely : Prop := orderIdealsRow.holds Try.pinned (OpenSpec.ofChange orderIdealsWrong)

/-- 'staddalaw09.OrderCompletions': WHATEVER THE INPUT: true; the input reads as it did. -/
def orderCompletionsSpec : ChangeSpec := { name := "orderCompletions", fn := fun _ => fun
  | [d1, d2, d3] => { results := [.lit (.bool true)], args := [d1, d2, d3] }
  | _ => none }
def orderCompletionsRow : OpenClaim := { program := "ytdokijbdnajhgaa", sum := "fc512e7f5ffc823684c02781e71dd8e45251e0cb885fe85b2013925a24e46289", func := "stadda/staddalaw09.OrderCompletions", spec := "orderCompletions", unfollowed := true, recurses := true, apart := false }
def OrderCompletionsSaid : Prop := orderCompletionsRow.holds Try.pinned (OpenSpec.ofChange orderCompletionsSpec)

/-- ITS FALSE NEIGHBOUR: 'it returns false'. Refute it at one input. -/
def orderCompletionsWrong : ChangeSpec := { name := "orderCompletions", fn := fun _ => fun
  | [d1, d2, d3] => { results := [.lit (.bool false)], args := [d1, d2, d3] }
  | _ => none }
def OrderCompletionsWrongFalsely : Prop := orderCompletionsRow.holds Try.pinned (OpenSpec.ofChange orderCompletionsWrong)

/-- 'staddalaw09.OrderLattices': WHATEVER THE INPUT: true; the input reads as it did. -/
def orderLatticesSpec : ChangeSpec := { name := "orderLattices", fn := fun _ => fun
  | [d1, d2, d3] => { results := [.lit (.bool true)], args := [d1, d2, d3] }
  | _ => none }
def orderLatticesRow : OpenClaim := { program := "ytdokijbdnajhgaa", sum := "fc512e7f5ffc823684c02781e71dd8e45251e0cb885fe85b2013925a24e46289", func := "stadda/staddalaw09.OrderLattices", spec := "orderLattices", unfollowed := true, recurses := true, apart := false }
def OrderLatticesSaid : Prop := orderLatticesRow.holds Try.pinned (OpenSpec.ofChange orderLatticesSpec)

/-- ITS FALSE NEIGHBOUR: 'it returns false'. Refute it at one input. -/
def orderLatticesWrong : ChangeSpec := { name := "orderLattices", fn := fun _ => fun
  | [d1, d2, d3] => { results := [.lit (.bool false)], args := [d1, d2, d3] }
  | _ => none }
def OrderLatticesWrongFalsely : Prop := orderLatticesRow.holds Try.pinned (OpenSpec.ofChange orderLatticesWrong)

/-- 'staddalaw09.OrderBirkhoff': WHATEVER THE INPUT: true; the input reads as it did. -/
def orderBirkhoffSpec : ChangeSpec := { name := "orderBirkhoff", fn := fun _ => fun
  | [d1, d2] => { results := [.lit (.bool true)], args := [d1, d2] }
  | _ => none }
def orderBirkhoffRow : OpenClaim := { program := "ytdokijbdnajhgaa", sum := "fc512e7f5ffc823684c02781e71dd8e45251e0cb885fe85b2013925a24e46289", func := "stadda/staddalaw09.OrderBirkhoff", spec := "orderBirkhoff", unfollowed := true, recurses := true, apart := false }
def OrderBirkhoffSaid : Prop := orderBirkhoffRow.holds Try.pinned (OpenSpec.ofChange orderBirkhoffSpec)

/-- ITS FALSE NEIGHBOUR: 'it returns false'. Refute it at one input. -/
def orderBirkhoffWrong : ChangeSpec := { name := "orderBirkhoff", fn := fun _ => fun
  | [d1, d2] => { results := [.lit (.bool false)], args := [d1, d2] }
  | _ => none }
def OrderBirkhoffWrongFalsely : Prop := orderBirkhoffRow.holds Try.pinned (OpenSpec.ofChange orderBirkhoffWrong)

/-- 'staddalaw09.OrderTarski': WHATEVER THE INPUT: true; the input reads as it did. -/
def orderTarskiSpec : ChangeSpec := { name := "orderTarski", fn := fun _ => fun
  | [d1, d2, d3] => { results := [.lit (.bool true)], args := [d1, d2, d3] }
  | _ => none }
def orderTarskiRow : OpenClaim := { program := "ytdokijbdnajhgaa", sum := "fc512e7f5ffc823684c02781e71dd8e45251e0cb885fe85b2013925a24e46289", func := "stadda/staddalaw09.OrderTarski", spec := "orderTarski", unfollowed := true, recurses := true, apart := false }
def OrderTarskiSaid : Prop := orderTarskiRow.holds Try.pinned (OpenSpec.ofChange orderTarskiSpec)

/-- ITS FALSE NEIGHBOUR: 'it returns false'. Refute it at one input. -/
def orderTarskiWrong : ChangeSpec := { name := "orderTarski", fn := fun _ => fun
  | [d1, d2, d3] => { results := [.lit (.bool false)], args := [d1, d2, d3] }
  | _ => none }
def OrderTarskiWrongFalsely : Prop := orderTarskiRow.holds Try.pinned (OpenSpec.ofChange orderTarskiWrong)

/-- 'staddalaw09.OrderRota': WHATEVER THE INPUT: true; the input reads as it did. -/
def orderRotaSpec : ChangeSpec := { name := "orderRota", fn := fun _ => fun
  | [d1, d2, d3] => { results := [.lit (.bool true)], args := [d1, d2, d3] }
  | _ => none }
def orderRotaRow : OpenClaim := { program := "ytdokijbdnajhgaa", sum := "fc512e7f5ffc823684c02781e71dd8e45251e0cb885fe85b2013925a24e46289", func := "stadda/staddalaw09.OrderRota", spec := "orderRota", unfollowed := true, recurses := true, apart := false }
def OrderRotaSaid : Prop := orderRotaRow.holds Try.pinned (OpenSpec.ofChange orderRotaSpec)

/-- ITS FALSE NEIGHBOUR: 'it returns false'. Refute it at one input. -/
def orderRotaWrong : ChangeSpec := { name := "orderRota", fn := fun _ => fun
  | [d1, d2, d3] => { results := [.lit (.bool false)], args := [d1, d2, d3] }
  | _ => none }
def OrderRotaWrongFalsely : Prop := orderRotaRow.holds Try.pinned (OpenSpec.ofChange orderRotaWrong)

/-- 'staddalaw09.OrderCounts': WHATEVER THE INPUT: true; the input reads as it did. -/
def orderCountsSpec : ChangeSpec := { name := "orderCounts", fn := fun _ => fun
  | [d1, d2, d3] => { results := [.lit (.bool true)], args := [d1, d2, d3] }
  | _ => none }
def orderCountsRow : OpenClaim := { program := "ytdokijbdnajhgaa", sum := "fc512e7f5ffc823684c02781e71dd8e45251e0cb885fe85b2013925a24e46289", func := "stadda/staddalaw09.OrderCounts", spec := "orderCounts", unfollowed := true, recurses := true, apart := false }
def OrderCountsSaid : Prop := orderCountsRow.holds Try.pinned (OpenSpec.ofChange orderCountsSpec)

/-- ITS FALSE NEIGHBOUR: 'it returns false'. Refute it at one input. -/
def orderCountsWrong : ChangeSpec := { name := "orderCounts", fn := fun _ => fun
  | [d1, d2, d3] => { results := [.lit (.bool false)], args := [d1, d2, d3] }
  | _ => none }
def OrderCountsWrongFalsely : Prop := orderCountsRow.holds Try.pinned (OpenSpec.ofChange orderCountsWrong)

/-- 'staddalaw09.OrderChecks': WHATEVER THE INPUT: true; the input reads as it did. -/
def orderChecksSpec : ChangeSpec := { name := "orderChecks", fn := fun _ => fun
  | [d1, d2, d3] => { results := [.lit (.bool true)], args := [d1, d2, d3] }
  | _ => none }
def orderChecksRow : OpenClaim := { program := "ytdokijbdnajhgaa", sum := "fc512e7f5ffc823684c02781e71dd8e45251e0cb885fe85b2013925a24e46289", func := "stadda/staddalaw09.OrderChecks", spec := "orderChecks", unfollowed := true, recurses := true, apart := false }
def OrderChecksSaid : Prop := orderChecksRow.holds Try.pinned (OpenSpec.ofChange orderChecksSpec)

/-- ITS FALSE NEIGHBOUR: 'it returns false'. Refute it at one input. -/
def orderChecksWrong : ChangeSpec := { name := "orderChecks", fn := fun _ => fun
  | [d1, d2, d3] => { results := [.lit (.bool false)], args := [d1, d2, d3] }
  | _ => none }
def OrderChecksWrongFalsely : Prop := orderChecksRow.holds Try.pinned (OpenSpec.ofChange orderChecksWrong)

/-- 'staddatop.TopAntichains': WHATEVER THE INPUT: true; the input reads as it did. -/
def topAntichainsSpec : ChangeSpec := { name := "topAntichains", fn := fun _ => fun
  | [d1, d2] => { results := [.lit (.bool true)], args := [d1, d2] }
  | _ => none }
def topAntichainsRow : OpenClaim := { program := "ytdokijbdnajhgaa", sum := "fc512e7f5ffc823684c02781e71dd8e45251e0cb885fe85b2013925a24e46289", func := "stadda/staddatop.TopAntichains", spec := "topAntichains", unfollowed := true, recurses := true, apart := false }
def TopAntichainsSaid : Prop := topAntichainsRow.holds Try.pinned (OpenSpec.ofChange topAntichainsSpec)

/-- ITS FALSE NEIGHBOUR: 'it returns false'. Refute it at one input. -/
def topAntichainsWrong : ChangeSpec := { name := "topAntichains", fn := fun _ => fun
  | [d1, d2] => { results := [.lit (.bool false)], args := [d1, d2] }
  | _ => none }
def TopAntichainsWrongFalsely : Prop := topAntichainsRow.holds Try.pinned (OpenSpec.ofChange topAntichainsWrong)

/-- 'staddatop.TopOutputs': WHATEVER THE INPUT: true; the input reads as it did. -/
def topOutputsSpec : ChangeSpec := { name := "topOutputs", fn := fun _ => fun
  | [d1, d2] => { results := [.lit (.bool true)], args := [d1, d2] }
  | _ => none }
def topOutputsRow : OpenClaim := { program := "ytdokijbdnajhgaa", sum := "fc512e7f5ffc823684c02781e71dd8e45251e0cb885fe85b2013925a24e46289", func := "stadda/staddatop.TopOutputs", spec := "topOutputs", unfollowed := true, recurses := true, apart := false }
def TopOutputsSaid : Prop := topOutputsRow.holds Try.pinned (OpenSpec.ofChange topOutputsSpec)

/-- ITS FALSE NEIGHBOUR: 'it returns false'. Refute it at one input. -/
def topOutputsWrong : ChangeSpec := { name := "topOutputs", fn := fun _ => fun
  | [d1, d2] => { results := [.lit (.bool false)], args := [d1, d2] }
  | _ => none }
def TopOutputsWrongFalsely : Prop := topOutputsRow.holds Try.pinned (OpenSpec.ofChange topOutputsWrong)

/-- 'staddatop.TopClosed': WHATEVER THE INPUT: true; the input reads as it did. -/
def topClosedSpec : ChangeSpec := { name := "topClosed", fn := fun _ => fun
  | [d1, d2] => { results := [.lit (.bool true)], args := [d1, d2] }
  | _ => none }
def topClosedRow : OpenClaim := { program := "ytdokijbdnajhgaa", sum := "fc512e7f5ffc823684c02781e71dd8e45251e0cb885fe85b2013925a24e46289", func := "stadda/staddatop.TopClosed", spec := "topClosed", unfollowed := true, recurses := true, apart := false }
def TopClosedSaid : Prop := topClosedRow.holds Try.pinned (OpenSpec.ofChange topClosedSpec)

/-- ITS FALSE NEIGHBOUR: 'it returns false'. Refute it at one input. -/
def topClosedWrong : ChangeSpec := { name := "topClosed", fn := fun _ => fun
  | [d1, d2] => { results := [.lit (.bool false)], args := [d1, d2] }
  | _ => none }
def TopClosedWrongFalsely : Prop := topClosedRow.holds Try.pinned (OpenSpec.ofChange topClosedWrong)

/-- 'staddatop.TopSubsets': WHATEVER THE INPUT: true; the input reads as it did. -/
def topSubsetsSpec : ChangeSpec := { name := "topSubsets", fn := fun _ => fun
  | [d] => { results := [.lit (.bool true)], args := [d] }
  | _ => none }
def topSubsetsRow : OpenClaim := { program := "ytdokijbdnajhgaa", sum := "fc512e7f5ffc823684c02781e71dd8e45251e0cb885fe85b2013925a24e46289", func := "stadda/staddatop.TopSubsets", spec := "topSubsets", unfollowed := true, recurses := true, apart := false }
def TopSubsetsSaid : Prop := topSubsetsRow.holds Try.pinned (OpenSpec.ofChange topSubsetsSpec)

/-- ITS FALSE NEIGHBOUR: 'it returns false'. Refute it at one input. -/
def topSubsetsWrong : ChangeSpec := { name := "topSubsets", fn := fun _ => fun
  | [d] => { results := [.lit (.bool false)], args := [d] }
  | _ => none }
def TopSubsetsWrongFalsely : Prop := topSubsetsRow.holds Try.pinned (OpenSpec.ofChange topSubsetsWrong)

/- THE SECOND FORM. 'bulk': how many values and letters a reading holds, each counted each time it is reached (what is shared counts as often as it is met; a slice's spare places count too). A statement '..UptoSaid' is the law's where the arguments, and the package variables that the reading takes, are together of bulk at most 1048576: NARROWER than '..Said'. Prove '..Said' where nothing that the law and all that it calls make is longer than what came in: it says more and counts as full. Else prove '..UptoSaid'. A law counts once. -/
mutual
def uptoBulk {H : Type} : DataW H → Nat
  | .lit (.string bytes) => bytes.length + 1
  | .lit _ => 1
  | .nil => 1
  | .ptr d => uptoBulk d + 1
  | .slice elems spare => uptoBulkAll elems + uptoBulkAll spare + 1
  | .agg parts => uptoBulkAll parts + 1
  | .iface _ d => uptoBulk d + 1
  | .map entries => uptoBulkEntries entries + 1
  | .held _ => 1
def uptoBulkAll {H : Type} : List (DataW H) → Nat
  | [] => 0
  | d :: r => uptoBulk d + uptoBulkAll r
def uptoBulkEntries {H : Type} : List (Lit × DataW H) → Nat
  | [] => 0
  | x :: r => uptoBulkEntry x + uptoBulkEntries r
def uptoBulkEntry {H : Type} : Lit × DataW H → Nat
  | (.string bytes, d) => bytes.length + uptoBulk d + 1
  | (_, d) => uptoBulk d + 1
 end
def uptoSmall : (H : Type) → List (DataW H) → Bool := fun _ ds => decide (uptoBulkAll ds ≤ 1048576)
def OpenSpec.upto (s : _root_.Go.ChangeSpec) : _root_.Go.OpenSpec := { _root_.Go.OpenSpec.ofChange s with cond := some uptoSmall }

/-- 'staddalaw09.OrderIdeals', WHERE WHAT IT READS IS OF BULK AT MOST 1048576: true; the input reads as it did. -/
def orderIdealsUptoRow : OpenClaim := { program := "ytdokijbdnajhgaa", sum := "fc512e7f5ffc823684c02781e71dd8e45251e0cb885fe85b2013925a24e46289", func := "stadda/staddalaw09.OrderIdeals", spec := "orderIdeals", unfollowed := true, recurses := true, apart := false, narrowed := true }
def OrderIdealsUptoSaid : Prop := orderIdealsUptoRow.holds Try.pinned (OpenSpec.upto orderIdealsSpec)

/-- 'staddalaw09.OrderCompletions', WHERE WHAT IT READS IS OF BULK AT MOST 1048576: true; the input reads as it did. -/
def orderCompletionsUptoRow : OpenClaim := { program := "ytdokijbdnajhgaa", sum := "fc512e7f5ffc823684c02781e71dd8e45251e0cb885fe85b2013925a24e46289", func := "stadda/staddalaw09.OrderCompletions", spec := "orderCompletions", unfollowed := true, recurses := true, apart := false, narrowed := true }
def OrderCompletionsUptoSaid : Prop := orderCompletionsUptoRow.holds Try.pinned (OpenSpec.upto orderCompletionsSpec)

/-- 'staddalaw09.OrderLattices', WHERE WHAT IT READS IS OF BULK AT MOST 1048576: true; the input reads as it did. -/
def orderLatticesUptoRow : OpenClaim := { program := "ytdokijbdnajhgaa", sum := "fc512e7f5ffc823684c02781e71dd8e45251e0cb885fe85b2013925a24e46289", func := "stadda/staddalaw09.OrderLattices", spec := "orderLattices", unfollowed := true, recurses := true, apart := false, narrowed := true }
def OrderLatticesUptoSaid : Prop := orderLatticesUptoRow.holds Try.pinned (OpenSpec.upto orderLatticesSpec)

/-- 'staddalaw09.OrderBirkhoff', WHERE WHAT IT READS IS OF BULK AT MOST 1048576: true; the input reads as it did. -/
def orderBirkhoffUptoRow : OpenClaim := { program := "ytdokijbdnajhgaa", sum := "fc512e7f5ffc823684c02781e71dd8e45251e0cb885fe85b2013925a24e46289", func := "stadda/staddalaw09.OrderBirkhoff", spec := "orderBirkhoff", unfollowed := true, recurses := true, apart := false, narrowed := true }
def OrderBirkhoffUptoSaid : Prop := orderBirkhoffUptoRow.holds Try.pinned (OpenSpec.upto orderBirkhoffSpec)

/-- 'staddalaw09.OrderTarski', WHERE WHAT IT READS IS OF BULK AT MOST 1048576: true; the input reads as it did. -/
def orderTarskiUptoRow : OpenClaim := { program := "ytdokijbdnajhgaa", sum := "fc512e7f5ffc823684c02781e71dd8e45251e0cb885fe85b2013925a24e46289", func := "stadda/staddalaw09.OrderTarski", spec := "orderTarski", unfollowed := true, recurses := true, apart := false, narrowed := true }
def OrderTarskiUptoSaid : Prop := orderTarskiUptoRow.holds Try.pinned (OpenSpec.upto orderTarskiSpec)

/-- 'staddalaw09.OrderRota', WHERE WHAT IT READS IS OF BULK AT MOST 1048576: true; the input reads as it did. -/
def orderRotaUptoRow : OpenClaim := { program := "ytdokijbdnajhgaa", sum := "fc512e7f5ffc823684c02781e71dd8e45251e0cb885fe85b2013925a24e46289", func := "stadda/staddalaw09.OrderRota", spec := "orderRota", unfollowed := true, recurses := true, apart := false, narrowed := true }
def OrderRotaUptoSaid : Prop := orderRotaUptoRow.holds Try.pinned (OpenSpec.upto orderRotaSpec)

/-- 'staddalaw09.OrderCounts', WHERE WHAT IT READS IS OF BULK AT MOST 1048576: true; the input reads as it did. -/
def orderCountsUptoRow : OpenClaim := { program := "ytdokijbdnajhgaa", sum := "fc512e7f5ffc823684c02781e71dd8e45251e0cb885fe85b2013925a24e46289", func := "stadda/staddalaw09.OrderCounts", spec := "orderCounts", unfollowed := true, recurses := true, apart := false, narrowed := true }
def OrderCountsUptoSaid : Prop := orderCountsUptoRow.holds Try.pinned (OpenSpec.upto orderCountsSpec)

/-- 'staddalaw09.OrderChecks', WHERE WHAT IT READS IS OF BULK AT MOST 1048576: true; the input reads as it did. -/
def orderChecksUptoRow : OpenClaim := { program := "ytdokijbdnajhgaa", sum := "fc512e7f5ffc823684c02781e71dd8e45251e0cb885fe85b2013925a24e46289", func := "stadda/staddalaw09.OrderChecks", spec := "orderChecks", unfollowed := true, recurses := true, apart := false, narrowed := true }
def OrderChecksUptoSaid : Prop := orderChecksUptoRow.holds Try.pinned (OpenSpec.upto orderChecksSpec)

/-- 'staddatop.TopAntichains', WHERE WHAT IT READS IS OF BULK AT MOST 1048576: true; the input reads as it did. -/
def topAntichainsUptoRow : OpenClaim := { program := "ytdokijbdnajhgaa", sum := "fc512e7f5ffc823684c02781e71dd8e45251e0cb885fe85b2013925a24e46289", func := "stadda/staddatop.TopAntichains", spec := "topAntichains", unfollowed := true, recurses := true, apart := false, narrowed := true }
def TopAntichainsUptoSaid : Prop := topAntichainsUptoRow.holds Try.pinned (OpenSpec.upto topAntichainsSpec)

/-- 'staddatop.TopOutputs', WHERE WHAT IT READS IS OF BULK AT MOST 1048576: true; the input reads as it did. -/
def topOutputsUptoRow : OpenClaim := { program := "ytdokijbdnajhgaa", sum := "fc512e7f5ffc823684c02781e71dd8e45251e0cb885fe85b2013925a24e46289", func := "stadda/staddatop.TopOutputs", spec := "topOutputs", unfollowed := true, recurses := true, apart := false, narrowed := true }
def TopOutputsUptoSaid : Prop := topOutputsUptoRow.holds Try.pinned (OpenSpec.upto topOutputsSpec)

/-- 'staddatop.TopClosed', WHERE WHAT IT READS IS OF BULK AT MOST 1048576: true; the input reads as it did. -/
def topClosedUptoRow : OpenClaim := { program := "ytdokijbdnajhgaa", sum := "fc512e7f5ffc823684c02781e71dd8e45251e0cb885fe85b2013925a24e46289", func := "stadda/staddatop.TopClosed", spec := "topClosed", unfollowed := true, recurses := true, apart := false, narrowed := true }
def TopClosedUptoSaid : Prop := topClosedUptoRow.holds Try.pinned (OpenSpec.upto topClosedSpec)

/-- 'staddatop.TopSubsets', WHERE WHAT IT READS IS OF BULK AT MOST 1048576: true; the input reads as it did. -/
def topSubsetsUptoRow : OpenClaim := { program := "ytdokijbdnajhgaa", sum := "fc512e7f5ffc823684c02781e71dd8e45251e0cb885fe85b2013925a24e46289", func := "stadda/staddatop.TopSubsets", spec := "topSubsets", unfollowed := true, recurses := true, apart := false, narrowed := true }
def TopSubsetsUptoSaid : Prop := topSubsetsUptoRow.holds Try.pinned (OpenSpec.upto topSubsetsSpec)

end Rows
end Go.Proofs.Ytdokijbdnajhgaa

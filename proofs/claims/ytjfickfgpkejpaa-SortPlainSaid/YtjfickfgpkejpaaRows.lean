/-
  No cell of these rows narrows 'for every input' (looked for: loops, veiled, ifaces, maps, wideKeys, modest, calm, conditions, laid).
  DERIVED. THE GIVEN ROWS OF THIS SEAT. 9 by the template 'for every input the law returns true; each argument reads behind the call as it read before'; 0 by the template 'total and deterministic' (their statements: YtjfickfgpkejpaaTotals.lean).
  GIVEN WITH THE SEED: the statements are not yours to turn. If you find one false, say at which input.
  Laid BY PROGRAM, IN A SANDBOX (cutbox-rows.mjs): the forced cells as the released guide's own fill.sh prints them over the translation ec9a5f2759822581… (all of the seat's roots in one cut). By AI agents, Wed Nov 11 2026. No macro, syntax, notation, axiom, sorry.
-/
import Derived.Test.YtjfickfgpkejpaaChecked
import GoSem.Claim
import GoSem.ClaimJoined
import GoSem.ClaimMapViews
import Derived.JoinedTies
import Derived.KernelRfl
namespace Go.Proofs.Ytjfickfgpkejpaa
/- THE CELL 'sum', in the pinned program and in every row, IS THE sha256 OF THE DUMP (.gsa) THAT YtjfickfgpkejpaaProg.lean LOADS. Nothing in Lean hashes anything: it is a label: what it is worth is what the hold of that sum in a sandbox is worth. -/
noncomputable def Try.pinned : Pinned := { name := "ytjfickfgpkejpaa", sum := "ec9a5f2759822581f3d3aa0fa19d44bf00aa02fea39eed641d38ea875ec6ff0a", checked := Try.checked }
namespace Rows
def none {H : Type} : Left H := { results := [], args := [] }

/-- 'staddalaw10.SortReaches': WHATEVER THE INPUT: true; the input reads as it did. -/
def sortReachesSpec : ChangeSpec := { name := "sortReaches", fn := fun _ => fun
  | [d1, d2] => { results := [.lit (.bool true)], args := [d1, d2] }
  | _ => none }
def sortReachesRow : OpenClaim := { program := "ytjfickfgpkejpaa", sum := "ec9a5f2759822581f3d3aa0fa19d44bf00aa02fea39eed641d38ea875ec6ff0a", func := "stadda/staddalaw10.SortReaches", spec := "sortReaches", unfollowed := true, recurses := true, apart := false }
def SortReachesSaid : Prop := sortReachesRow.holds Try.pinned (OpenSpec.ofChange sortReachesSpec)

/-- ITS FALSE NEIGHBOUR: 'it returns false'. Refute it at one input. -/
def sortReachesWrong : ChangeSpec := { name := "sortReaches", fn := fun _ => fun
  | [d1, d2] => { results := [.lit (.bool false)], args := [d1, d2] }
  | _ => none }
def SortReachesWrongFalsely : Prop := sortReachesRow.holds Try.pinned (OpenSpec.ofChange sortReachesWrong)

/-- 'staddalaw10.SortShell': WHATEVER THE INPUT: true; the input reads as it did. -/
def sortShellSpec : ChangeSpec := { name := "sortShell", fn := fun _ => fun
  | [d1, d2, d3] => { results := [.lit (.bool true)], args := [d1, d2, d3] }
  | _ => none }
def sortShellRow : OpenClaim := { program := "ytjfickfgpkejpaa", sum := "ec9a5f2759822581f3d3aa0fa19d44bf00aa02fea39eed641d38ea875ec6ff0a", func := "stadda/staddalaw10.SortShell", spec := "sortShell", unfollowed := true, recurses := true, apart := false }
def SortShellSaid : Prop := sortShellRow.holds Try.pinned (OpenSpec.ofChange sortShellSpec)

/-- ITS FALSE NEIGHBOUR: 'it returns false'. Refute it at one input. -/
def sortShellWrong : ChangeSpec := { name := "sortShell", fn := fun _ => fun
  | [d1, d2, d3] => { results := [.lit (.bool false)], args := [d1, d2, d3] }
  | _ => none }
def SortShellWrongFalsely : Prop := sortShellRow.holds Try.pinned (OpenSpec.ofChange sortShellWrong)

/-- 'staddalaw10.SortMakes': WHATEVER THE INPUT: true; the input reads as it did. -/
def sortMakesSpec : ChangeSpec := { name := "sortMakes", fn := fun _ => fun
  | [d1, d2] => { results := [.lit (.bool true)], args := [d1, d2] }
  | _ => none }
def sortMakesRow : OpenClaim := { program := "ytjfickfgpkejpaa", sum := "ec9a5f2759822581f3d3aa0fa19d44bf00aa02fea39eed641d38ea875ec6ff0a", func := "stadda/staddalaw10.SortMakes", spec := "sortMakes", unfollowed := true, recurses := true, apart := false }
def SortMakesSaid : Prop := sortMakesRow.holds Try.pinned (OpenSpec.ofChange sortMakesSpec)

/-- ITS FALSE NEIGHBOUR: 'it returns false'. Refute it at one input. -/
def sortMakesWrong : ChangeSpec := { name := "sortMakes", fn := fun _ => fun
  | [d1, d2] => { results := [.lit (.bool false)], args := [d1, d2] }
  | _ => none }
def SortMakesWrongFalsely : Prop := sortMakesRow.holds Try.pinned (OpenSpec.ofChange sortMakesWrong)

/-- 'staddalaw10.SortRows': WHATEVER THE INPUT: true; the input reads as it did. -/
def sortRowsSpec : ChangeSpec := { name := "sortRows", fn := fun _ => fun
  | [d1, d2, d3] => { results := [.lit (.bool true)], args := [d1, d2, d3] }
  | _ => none }
def sortRowsRow : OpenClaim := { program := "ytjfickfgpkejpaa", sum := "ec9a5f2759822581f3d3aa0fa19d44bf00aa02fea39eed641d38ea875ec6ff0a", func := "stadda/staddalaw10.SortRows", spec := "sortRows", unfollowed := true, recurses := true, apart := false }
def SortRowsSaid : Prop := sortRowsRow.holds Try.pinned (OpenSpec.ofChange sortRowsSpec)

/-- ITS FALSE NEIGHBOUR: 'it returns false'. Refute it at one input. -/
def sortRowsWrong : ChangeSpec := { name := "sortRows", fn := fun _ => fun
  | [d1, d2, d3] => { results := [.lit (.bool false)], args := [d1, d2, d3] }
  | _ => none }
def SortRowsWrongFalsely : Prop := sortRowsRow.holds Try.pinned (OpenSpec.ofChange sortRowsWrong)

/-- 'staddalaw10.SortStraight': WHATEVER THE INPUT: true; the input reads as it did. -/
def sortStraightSpec : ChangeSpec := { name := "sortStraight", fn := fun _ => fun
  | [d1, d2, d3] => { results := [.lit (.bool true)], args := [d1, d2, d3] }
  | _ => none }
def sortStraightRow : OpenClaim := { program := "ytjfickfgpkejpaa", sum := "ec9a5f2759822581f3d3aa0fa19d44bf00aa02fea39eed641d38ea875ec6ff0a", func := "stadda/staddalaw10.SortStraight", spec := "sortStraight", unfollowed := true, recurses := true, apart := false }
def SortStraightSaid : Prop := sortStraightRow.holds Try.pinned (OpenSpec.ofChange sortStraightSpec)

/-- ITS FALSE NEIGHBOUR: 'it returns false'. Refute it at one input. -/
def sortStraightWrong : ChangeSpec := { name := "sortStraight", fn := fun _ => fun
  | [d1, d2, d3] => { results := [.lit (.bool false)], args := [d1, d2, d3] }
  | _ => none }
def SortStraightWrongFalsely : Prop := sortStraightRow.holds Try.pinned (OpenSpec.ofChange sortStraightWrong)

/-- 'staddalaw10.SortZeros': WHATEVER THE INPUT: true; the input reads as it did. -/
def sortZerosSpec : ChangeSpec := { name := "sortZeros", fn := fun _ => fun
  | [d1, d2, d3] => { results := [.lit (.bool true)], args := [d1, d2, d3] }
  | _ => none }
def sortZerosRow : OpenClaim := { program := "ytjfickfgpkejpaa", sum := "ec9a5f2759822581f3d3aa0fa19d44bf00aa02fea39eed641d38ea875ec6ff0a", func := "stadda/staddalaw10.SortZeros", spec := "sortZeros", unfollowed := true, recurses := true, apart := false }
def SortZerosSaid : Prop := sortZerosRow.holds Try.pinned (OpenSpec.ofChange sortZerosSpec)

/-- ITS FALSE NEIGHBOUR: 'it returns false'. Refute it at one input. -/
def sortZerosWrong : ChangeSpec := { name := "sortZeros", fn := fun _ => fun
  | [d1, d2, d3] => { results := [.lit (.bool false)], args := [d1, d2, d3] }
  | _ => none }
def SortZerosWrongFalsely : Prop := sortZerosRow.holds Try.pinned (OpenSpec.ofChange sortZerosWrong)

/-- 'staddalaw10.SortPlain': WHATEVER THE INPUT: true; the input reads as it did. -/
def sortPlainSpec : ChangeSpec := { name := "sortPlain", fn := fun _ => fun
  | [d1, d2] => { results := [.lit (.bool true)], args := [d1, d2] }
  | _ => none }
def sortPlainRow : OpenClaim := { program := "ytjfickfgpkejpaa", sum := "ec9a5f2759822581f3d3aa0fa19d44bf00aa02fea39eed641d38ea875ec6ff0a", func := "stadda/staddalaw10.SortPlain", spec := "sortPlain", unfollowed := true, recurses := true, apart := false }
def SortPlainSaid : Prop := sortPlainRow.holds Try.pinned (OpenSpec.ofChange sortPlainSpec)

/-- ITS FALSE NEIGHBOUR: 'it returns false'. Refute it at one input. -/
def sortPlainWrong : ChangeSpec := { name := "sortPlain", fn := fun _ => fun
  | [d1, d2] => { results := [.lit (.bool false)], args := [d1, d2] }
  | _ => none }
def SortPlainWrongFalsely : Prop := sortPlainRow.holds Try.pinned (OpenSpec.ofChange sortPlainWrong)

/-- 'staddalaw10.SortRuns': WHATEVER THE INPUT: true; the input reads as it did. -/
def sortRunsSpec : ChangeSpec := { name := "sortRuns", fn := fun _ => fun
  | [d1, d2, d3] => { results := [.lit (.bool true)], args := [d1, d2, d3] }
  | _ => none }
def sortRunsRow : OpenClaim := { program := "ytjfickfgpkejpaa", sum := "ec9a5f2759822581f3d3aa0fa19d44bf00aa02fea39eed641d38ea875ec6ff0a", func := "stadda/staddalaw10.SortRuns", spec := "sortRuns", unfollowed := true, recurses := true, apart := false }
def SortRunsSaid : Prop := sortRunsRow.holds Try.pinned (OpenSpec.ofChange sortRunsSpec)

/-- ITS FALSE NEIGHBOUR: 'it returns false'. Refute it at one input. -/
def sortRunsWrong : ChangeSpec := { name := "sortRuns", fn := fun _ => fun
  | [d1, d2, d3] => { results := [.lit (.bool false)], args := [d1, d2, d3] }
  | _ => none }
def SortRunsWrongFalsely : Prop := sortRunsRow.holds Try.pinned (OpenSpec.ofChange sortRunsWrong)

/-- 'staddalaw10.SortChecks': WHATEVER THE INPUT: true; the input reads as it did. -/
def sortChecksSpec : ChangeSpec := { name := "sortChecks", fn := fun _ => fun
  | [d1, d2, d3] => { results := [.lit (.bool true)], args := [d1, d2, d3] }
  | _ => none }
def sortChecksRow : OpenClaim := { program := "ytjfickfgpkejpaa", sum := "ec9a5f2759822581f3d3aa0fa19d44bf00aa02fea39eed641d38ea875ec6ff0a", func := "stadda/staddalaw10.SortChecks", spec := "sortChecks", unfollowed := true, recurses := true, apart := false }
def SortChecksSaid : Prop := sortChecksRow.holds Try.pinned (OpenSpec.ofChange sortChecksSpec)

/-- ITS FALSE NEIGHBOUR: 'it returns false'. Refute it at one input. -/
def sortChecksWrong : ChangeSpec := { name := "sortChecks", fn := fun _ => fun
  | [d1, d2, d3] => { results := [.lit (.bool false)], args := [d1, d2, d3] }
  | _ => none }
def SortChecksWrongFalsely : Prop := sortChecksRow.holds Try.pinned (OpenSpec.ofChange sortChecksWrong)

/- THE SECOND FORM. 'bulk': how many values and letters a reading holds, each counted each time it is reached (what is shared counts as often as it is met; a slice's spare places count too). A statement '..UptoSaid' is the law's where the arguments, and the package variables that the reading takes, are together of bulk at most 1048576: NARROWER than '..Said'. Prove '..Said' where nothing that the law and all that it calls make is longer than what came in: it says more and counts as full. Else prove '..UptoSaid'. A law counts once. -/
mutual
def uptoBulk {H : Type} : DataW H → Nat
  | .lit (.string bytes) => bytes.length + 1
  | .lit _ => 1
  | .nil => 1
  | .ptr d => uptoBulk d + 1
  | .slice elems spare => uptoBulkAll elems + uptoBulkAll spare + 1
  | .agg parts => uptoBulkAll parts + 1
  | .iface _ d => uptoBulk d + 1
  | .map entries => uptoBulkEntries entries + 1
  | .held _ => 1
def uptoBulkAll {H : Type} : List (DataW H) → Nat
  | [] => 0
  | d :: r => uptoBulk d + uptoBulkAll r
def uptoBulkEntries {H : Type} : List (Lit × DataW H) → Nat
  | [] => 0
  | x :: r => uptoBulkEntry x + uptoBulkEntries r
def uptoBulkEntry {H : Type} : Lit × DataW H → Nat
  | (.string bytes, d) => bytes.length + uptoBulk d + 1
  | (_, d) => uptoBulk d + 1
 end
def uptoSmall : (H : Type) → List (DataW H) → Bool := fun _ ds => decide (uptoBulkAll ds ≤ 1048576)
def OpenSpec.upto (s : _root_.Go.ChangeSpec) : _root_.Go.OpenSpec := { _root_.Go.OpenSpec.ofChange s with cond := some uptoSmall }

/-- 'staddalaw10.SortReaches', WHERE WHAT IT READS IS OF BULK AT MOST 1048576: true; the input reads as it did. -/
def sortReachesUptoRow : OpenClaim := { program := "ytjfickfgpkejpaa", sum := "ec9a5f2759822581f3d3aa0fa19d44bf00aa02fea39eed641d38ea875ec6ff0a", func := "stadda/staddalaw10.SortReaches", spec := "sortReaches", unfollowed := true, recurses := true, apart := false, narrowed := true }
def SortReachesUptoSaid : Prop := sortReachesUptoRow.holds Try.pinned (OpenSpec.upto sortReachesSpec)

/-- 'staddalaw10.SortShell', WHERE WHAT IT READS IS OF BULK AT MOST 1048576: true; the input reads as it did. -/
def sortShellUptoRow : OpenClaim := { program := "ytjfickfgpkejpaa", sum := "ec9a5f2759822581f3d3aa0fa19d44bf00aa02fea39eed641d38ea875ec6ff0a", func := "stadda/staddalaw10.SortShell", spec := "sortShell", unfollowed := true, recurses := true, apart := false, narrowed := true }
def SortShellUptoSaid : Prop := sortShellUptoRow.holds Try.pinned (OpenSpec.upto sortShellSpec)

/-- 'staddalaw10.SortMakes', WHERE WHAT IT READS IS OF BULK AT MOST 1048576: true; the input reads as it did. -/
def sortMakesUptoRow : OpenClaim := { program := "ytjfickfgpkejpaa", sum := "ec9a5f2759822581f3d3aa0fa19d44bf00aa02fea39eed641d38ea875ec6ff0a", func := "stadda/staddalaw10.SortMakes", spec := "sortMakes", unfollowed := true, recurses := true, apart := false, narrowed := true }
def SortMakesUptoSaid : Prop := sortMakesUptoRow.holds Try.pinned (OpenSpec.upto sortMakesSpec)

/-- 'staddalaw10.SortRows', WHERE WHAT IT READS IS OF BULK AT MOST 1048576: true; the input reads as it did. -/
def sortRowsUptoRow : OpenClaim := { program := "ytjfickfgpkejpaa", sum := "ec9a5f2759822581f3d3aa0fa19d44bf00aa02fea39eed641d38ea875ec6ff0a", func := "stadda/staddalaw10.SortRows", spec := "sortRows", unfollowed := true, recurses := true, apart := false, narrowed := true }
def SortRowsUptoSaid : Prop := sortRowsUptoRow.holds Try.pinned (OpenSpec.upto sortRowsSpec)

/-- 'staddalaw10.SortStraight', WHERE WHAT IT READS IS OF BULK AT MOST 1048576: true; the input reads as it did. -/
def sortStraightUptoRow : OpenClaim := { program := "ytjfickfgpkejpaa", sum := "ec9a5f2759822581f3d3aa0fa19d44bf00aa02fea39eed641d38ea875ec6ff0a", func := "stadda/staddalaw10.SortStraight", spec := "sortStraight", unfollowed := true, recurses := true, apart := false, narrowed := true }
def SortStraightUptoSaid : Prop := sortStraightUptoRow.holds Try.pinned (OpenSpec.upto sortStraightSpec)

/-- 'staddalaw10.SortZeros', WHERE WHAT IT READS IS OF BULK AT MOST 1048576: true; the input reads as it did. -/
def sortZerosUptoRow : OpenClaim := { program := "ytjfickfgpkejpaa", sum := "ec9a5f2759822581f3d3aa0fa19d44bf00aa02fea39eed641d38ea875ec6ff0a", func := "stadda/staddalaw10.SortZeros", spec := "sortZeros", unfollowed := true, recurses := true, apart := false, narrowed := true }
def SortZerosUptoSaid : Prop := sortZerosUptoRow.holds Try.pinned (OpenSpec.upto sortZerosSpec)

/-- 'staddalaw10.SortPlain', WHERE WHAT IT READS IS OF BULK AT MOST 1048576: true; the input reads as it did. -/
def sortPlainUptoRow : OpenClaim := { program := "ytjfickfgpkejpaa", sum := "ec9a5f2759822581f3d3aa0fa19d44bf00aa02fea39eed641d38ea875ec6ff0a", func := "stadda/staddalaw10.SortPlain", spec := "sortPlain", unfollowed := true, recurses := true, apart := false, narrowed := true }
def SortPlainUptoSaid : Prop := sortPlainUptoRow.holds Try.pinned (OpenSpec.upto sortPlainSpec)

/-- 'staddalaw10.SortRuns', WHERE WHAT IT READS IS OF BULK AT MOST 1048576: true; the input reads as it did. -/
def sortRunsUptoRow : OpenClaim := { program := "ytjfickfgpkejpaa", sum := "ec9a5f2759822581f3d3aa0fa19d44bf00aa02fea39eed641d38ea875ec6ff0a", func := "stadda/staddalaw10.SortRuns", spec := "sortRuns", unfollowed := true, recurses := true, apart := false, narrowed := true }
def SortRunsUptoSaid : Prop := sortRunsUptoRow.holds Try.pinned (OpenSpec.upto sortRunsSpec)

/-- 'staddalaw10.SortChecks', WHERE WHAT IT READS IS OF BULK AT MOST 1048576: true; the input reads as it did. -/
def sortChecksUptoRow : OpenClaim := { program := "ytjfickfgpkejpaa", sum := "ec9a5f2759822581f3d3aa0fa19d44bf00aa02fea39eed641d38ea875ec6ff0a", func := "stadda/staddalaw10.SortChecks", spec := "sortChecks", unfollowed := true, recurses := true, apart := false, narrowed := true }
def SortChecksUptoSaid : Prop := sortChecksUptoRow.holds Try.pinned (OpenSpec.upto sortChecksSpec)

end Rows
end Go.Proofs.Ytjfickfgpkejpaa

/-
  No cell of these rows narrows 'for every input' (looked for: loops, veiled, ifaces, maps, wideKeys, modest, calm, conditions, laid).
  DERIVED. THE GIVEN ROWS OF THIS SEAT. 8 by the template 'for every input the law returns true; each argument reads behind the call as it read before'; 0 by the template 'total and deterministic' (their statements: YtdaanpgdjjodcaaTotals.lean).
  GIVEN WITH THE SEED: the statements are not yours to turn. If you find one false, say at which input.
  Laid BY PROGRAM, IN A SANDBOX (cutbox-rows.mjs): the forced cells as the released guide's own fill.sh prints them over the translation 8f56246bf121114f… (all of the seat's roots in one cut). By AI agents, Wed Nov 11 2026. No macro, syntax, notation, axiom, sorry.
-/
import Derived.Test.YtdaanpgdjjodcaaChecked
import GoSem.Claim
import GoSem.ClaimJoined
import GoSem.ClaimMapViews
import Derived.JoinedTies
import Derived.KernelRfl
namespace Go.Proofs.Ytdaanpgdjjodcaa
/- THE CELL 'sum', in the pinned program and in every row, IS THE sha256 OF THE DUMP (.gsa) THAT YtdaanpgdjjodcaaProg.lean LOADS. Nothing in Lean hashes anything: it is a label: what it is worth is what the hold of that sum in a sandbox is worth. -/
noncomputable def Try.pinned : Pinned := { name := "ytdaanpgdjjodcaa", sum := "8f56246bf121114feceb2540fd421d7484213e14d5a6f4c7c58c1287b68cdbd3", checked := Try.checked }
namespace Rows
def none {H : Type} : Left H := { results := [], args := [] }

/-- 'linkboylaw08.NodeTakes': WHATEVER THE INPUT: true; the input reads as it did. -/
def nodeTakesSpec : ChangeSpec := { name := "nodeTakes", fn := fun _ => fun
  | [d1, d2, d3] => { results := [.lit (.bool true)], args := [d1, d2, d3] }
  | _ => none }
def nodeTakesRow : OpenClaim := { program := "ytdaanpgdjjodcaa", sum := "8f56246bf121114feceb2540fd421d7484213e14d5a6f4c7c58c1287b68cdbd3", func := "linkboy/linkboylaw08.NodeTakes", spec := "nodeTakes", unfollowed := true, recurses := true, apart := false }
def NodeTakesSaid : Prop := nodeTakesRow.holds Try.pinned (OpenSpec.ofChange nodeTakesSpec)

/-- ITS FALSE NEIGHBOUR: 'it returns false'. Refute it at one input. -/
def nodeTakesWrong : ChangeSpec := { name := "nodeTakes", fn := fun _ => fun
  | [d1, d2, d3] => { results := [.lit (.bool false)], args := [d1, d2, d3] }
  | _ => none }
def NodeTakesWrongFalsely : Prop := nodeTakesRow.holds Try.pinned (OpenSpec.ofChange nodeTakesWrong)

/-- 'linkboylaw08.NodeBurns': WHATEVER THE INPUT: true; the input reads as it did. -/
def nodeBurnsSpec : ChangeSpec := { name := "nodeBurns", fn := fun _ => fun
  | [d1, d2] => { results := [.lit (.bool true)], args := [d1, d2] }
  | _ => none }
def nodeBurnsRow : OpenClaim := { program := "ytdaanpgdjjodcaa", sum := "8f56246bf121114feceb2540fd421d7484213e14d5a6f4c7c58c1287b68cdbd3", func := "linkboy/linkboylaw08.NodeBurns", spec := "nodeBurns", unfollowed := true, recurses := true, apart := false }
def NodeBurnsSaid : Prop := nodeBurnsRow.holds Try.pinned (OpenSpec.ofChange nodeBurnsSpec)

/-- ITS FALSE NEIGHBOUR: 'it returns false'. Refute it at one input. -/
def nodeBurnsWrong : ChangeSpec := { name := "nodeBurns", fn := fun _ => fun
  | [d1, d2] => { results := [.lit (.bool false)], args := [d1, d2] }
  | _ => none }
def NodeBurnsWrongFalsely : Prop := nodeBurnsRow.holds Try.pinned (OpenSpec.ofChange nodeBurnsWrong)

/-- 'linkboylaw08.NodeOwnCell': WHATEVER THE INPUT: true; the input reads as it did. -/
def nodeOwnCellSpec : ChangeSpec := { name := "nodeOwnCell", fn := fun _ => fun
  | [d1, d2, d3] => { results := [.lit (.bool true)], args := [d1, d2, d3] }
  | _ => none }
def nodeOwnCellRow : OpenClaim := { program := "ytdaanpgdjjodcaa", sum := "8f56246bf121114feceb2540fd421d7484213e14d5a6f4c7c58c1287b68cdbd3", func := "linkboy/linkboylaw08.NodeOwnCell", spec := "nodeOwnCell", unfollowed := true, recurses := true, apart := false }
def NodeOwnCellSaid : Prop := nodeOwnCellRow.holds Try.pinned (OpenSpec.ofChange nodeOwnCellSpec)

/-- ITS FALSE NEIGHBOUR: 'it returns false'. Refute it at one input. -/
def nodeOwnCellWrong : ChangeSpec := { name := "nodeOwnCell", fn := fun _ => fun
  | [d1, d2, d3] => { results := [.lit (.bool false)], args := [d1, d2, d3] }
  | _ => none }
def NodeOwnCellWrongFalsely : Prop := nodeOwnCellRow.holds Try.pinned (OpenSpec.ofChange nodeOwnCellWrong)

/-- 'linkboylaw08.NodeOrders': WHATEVER THE INPUT: true; the input reads as it did. -/
def nodeOrdersSpec : ChangeSpec := { name := "nodeOrders", fn := fun _ => fun
  | [d1, d2, d3] => { results := [.lit (.bool true)], args := [d1, d2, d3] }
  | _ => none }
def nodeOrdersRow : OpenClaim := { program := "ytdaanpgdjjodcaa", sum := "8f56246bf121114feceb2540fd421d7484213e14d5a6f4c7c58c1287b68cdbd3", func := "linkboy/linkboylaw08.NodeOrders", spec := "nodeOrders", unfollowed := true, recurses := true, apart := false }
def NodeOrdersSaid : Prop := nodeOrdersRow.holds Try.pinned (OpenSpec.ofChange nodeOrdersSpec)

/-- ITS FALSE NEIGHBOUR: 'it returns false'. Refute it at one input. -/
def nodeOrdersWrong : ChangeSpec := { name := "nodeOrders", fn := fun _ => fun
  | [d1, d2, d3] => { results := [.lit (.bool false)], args := [d1, d2, d3] }
  | _ => none }
def NodeOrdersWrongFalsely : Prop := nodeOrdersRow.holds Try.pinned (OpenSpec.ofChange nodeOrdersWrong)

/-- 'linkboylaw08.NodeChecks': WHATEVER THE INPUT: true; the input reads as it did. -/
def nodeChecksSpec : ChangeSpec := { name := "nodeChecks", fn := fun _ => fun
  | [d1, d2, d3] => { results := [.lit (.bool true)], args := [d1, d2, d3] }
  | _ => none }
def nodeChecksRow : OpenClaim := { program := "ytdaanpgdjjodcaa", sum := "8f56246bf121114feceb2540fd421d7484213e14d5a6f4c7c58c1287b68cdbd3", func := "linkboy/linkboylaw08.NodeChecks", spec := "nodeChecks", unfollowed := true, recurses := true, apart := false }
def NodeChecksSaid : Prop := nodeChecksRow.holds Try.pinned (OpenSpec.ofChange nodeChecksSpec)

/-- ITS FALSE NEIGHBOUR: 'it returns false'. Refute it at one input. -/
def nodeChecksWrong : ChangeSpec := { name := "nodeChecks", fn := fun _ => fun
  | [d1, d2, d3] => { results := [.lit (.bool false)], args := [d1, d2, d3] }
  | _ => none }
def NodeChecksWrongFalsely : Prop := nodeChecksRow.holds Try.pinned (OpenSpec.ofChange nodeChecksWrong)

/-- 'linkboylaw08.NodeNights': WHATEVER THE INPUT: true; the input reads as it did. -/
def nodeNightsSpec : ChangeSpec := { name := "nodeNights", fn := fun _ => fun
  | [d1, d2, d3] => { results := [.lit (.bool true)], args := [d1, d2, d3] }
  | _ => none }
def nodeNightsRow : OpenClaim := { program := "ytdaanpgdjjodcaa", sum := "8f56246bf121114feceb2540fd421d7484213e14d5a6f4c7c58c1287b68cdbd3", func := "linkboy/linkboylaw08.NodeNights", spec := "nodeNights", unfollowed := true, recurses := true, apart := false }
def NodeNightsSaid : Prop := nodeNightsRow.holds Try.pinned (OpenSpec.ofChange nodeNightsSpec)

/-- ITS FALSE NEIGHBOUR: 'it returns false'. Refute it at one input. -/
def nodeNightsWrong : ChangeSpec := { name := "nodeNights", fn := fun _ => fun
  | [d1, d2, d3] => { results := [.lit (.bool false)], args := [d1, d2, d3] }
  | _ => none }
def NodeNightsWrongFalsely : Prop := nodeNightsRow.holds Try.pinned (OpenSpec.ofChange nodeNightsWrong)

/-- 'linkboylaw08.NodeMerges': WHATEVER THE INPUT: true; the input reads as it did. -/
def nodeMergesSpec : ChangeSpec := { name := "nodeMerges", fn := fun _ => fun
  | [d1, d2, d3] => { results := [.lit (.bool true)], args := [d1, d2, d3] }
  | _ => none }
def nodeMergesRow : OpenClaim := { program := "ytdaanpgdjjodcaa", sum := "8f56246bf121114feceb2540fd421d7484213e14d5a6f4c7c58c1287b68cdbd3", func := "linkboy/linkboylaw08.NodeMerges", spec := "nodeMerges", unfollowed := true, recurses := true, apart := false }
def NodeMergesSaid : Prop := nodeMergesRow.holds Try.pinned (OpenSpec.ofChange nodeMergesSpec)

/-- ITS FALSE NEIGHBOUR: 'it returns false'. Refute it at one input. -/
def nodeMergesWrong : ChangeSpec := { name := "nodeMerges", fn := fun _ => fun
  | [d1, d2, d3] => { results := [.lit (.bool false)], args := [d1, d2, d3] }
  | _ => none }
def NodeMergesWrongFalsely : Prop := nodeMergesRow.holds Try.pinned (OpenSpec.ofChange nodeMergesWrong)

/-- 'linkboylaw08.NodeReports': WHATEVER THE INPUT: true; the input reads as it did. -/
def nodeReportsSpec : ChangeSpec := { name := "nodeReports", fn := fun _ => fun
  | [d1, d2, d3] => { results := [.lit (.bool true)], args := [d1, d2, d3] }
  | _ => none }
def nodeReportsRow : OpenClaim := { program := "ytdaanpgdjjodcaa", sum := "8f56246bf121114feceb2540fd421d7484213e14d5a6f4c7c58c1287b68cdbd3", func := "linkboy/linkboylaw08.NodeReports", spec := "nodeReports", unfollowed := true, recurses := true, apart := false }
def NodeReportsSaid : Prop := nodeReportsRow.holds Try.pinned (OpenSpec.ofChange nodeReportsSpec)

/-- ITS FALSE NEIGHBOUR: 'it returns false'. Refute it at one input. -/
def nodeReportsWrong : ChangeSpec := { name := "nodeReports", fn := fun _ => fun
  | [d1, d2, d3] => { results := [.lit (.bool false)], args := [d1, d2, d3] }
  | _ => none }
def NodeReportsWrongFalsely : Prop := nodeReportsRow.holds Try.pinned (OpenSpec.ofChange nodeReportsWrong)

/- THE SECOND FORM. 'bulk': how many values and letters a reading holds, each counted each time it is reached (what is shared counts as often as it is met; a slice's spare places count too). A statement '..UptoSaid' is the law's where the arguments, and the package variables that the reading takes, are together of bulk at most 1048576: NARROWER than '..Said'. Prove '..Said' where nothing that the law and all that it calls make is longer than what came in: it says more and counts as full. Else prove '..UptoSaid'. A law counts once. -/
mutual
def uptoBulk {H : Type} : DataW H → Nat
  | .lit (.string bytes) => bytes.length + 1
  | .lit _ => 1
  | .nil => 1
  | .ptr d => uptoBulk d + 1
  | .slice elems spare => uptoBulkAll elems + uptoBulkAll spare + 1
  | .agg parts => uptoBulkAll parts + 1
  | .iface _ d => uptoBulk d + 1
  | .map entries => uptoBulkEntries entries + 1
  | .held _ => 1
def uptoBulkAll {H : Type} : List (DataW H) → Nat
  | [] => 0
  | d :: r => uptoBulk d + uptoBulkAll r
def uptoBulkEntries {H : Type} : List (Lit × DataW H) → Nat
  | [] => 0
  | x :: r => uptoBulkEntry x + uptoBulkEntries r
def uptoBulkEntry {H : Type} : Lit × DataW H → Nat
  | (.string bytes, d) => bytes.length + uptoBulk d + 1
  | (_, d) => uptoBulk d + 1
 end
def uptoSmall : (H : Type) → List (DataW H) → Bool := fun _ ds => decide (uptoBulkAll ds ≤ 1048576)
def OpenSpec.upto (s : _root_.Go.ChangeSpec) : _root_.Go.OpenSpec := { _root_.Go.OpenSpec.ofChange s with cond := some uptoSmall }

/-- 'linkboylaw08.NodeTakes', WHERE WHAT IT READS IS OF BULK AT MOST 1048576: true; the input reads as it did. -/
def nodeTakesUptoRow : OpenClaim := { program := "ytdaanpgdjjodcaa", sum := "8f56246bf121114feceb2540fd421d7484213e14d5a6f4c7c58c1287b68cdbd3", func := "linkboy/linkboylaw08.NodeTakes", spec := "nodeTakes", unfollowed := true, recurses := true, apart := false, narrowed := true }
def NodeTakesUptoSaid : Prop := nodeTakesUptoRow.holds Try.pinned (OpenSpec.upto nodeTakesSpec)

/-- 'linkboylaw08.NodeBurns', WHERE WHAT IT READS IS OF BULK AT MOST 1048576: true; the input reads as it did. -/
def nodeBurnsUptoRow : OpenClaim := { program := "ytdaanpgdjjodcaa", sum := "8f56246bf121114feceb2540fd421d7484213e14d5a6f4c7c58c1287b68cdbd3", func := "linkboy/linkboylaw08.NodeBurns", spec := "nodeBurns", unfollowed := true, recurses := true, apart := false, narrowed := true }
def NodeBurnsUptoSaid : Prop := nodeBurnsUptoRow.holds Try.pinned (OpenSpec.upto nodeBurnsSpec)

/-- 'linkboylaw08.NodeOwnCell', WHERE WHAT IT READS IS OF BULK AT MOST 1048576: true; the input reads as it did. -/
def nodeOwnCellUptoRow : OpenClaim := { program := "ytdaanpgdjjodcaa", sum := "8f56246bf121114feceb2540fd421d7484213e14d5a6f4c7c58c1287b68cdbd3", func := "linkboy/linkboylaw08.NodeOwnCell", spec := "nodeOwnCell", unfollowed := true, recurses := true, apart := false, narrowed := true }
def NodeOwnCellUptoSaid : Prop := nodeOwnCellUptoRow.holds Try.pinned (OpenSpec.upto nodeOwnCellSpec)

/-- 'linkboylaw08.NodeOrders', WHERE WHAT IT READS IS OF BULK AT MOST 1048576: true; the input reads as it did. -/
def nodeOrdersUptoRow : OpenClaim := { program := "ytdaanpgdjjodcaa", sum := "8f56246bf121114feceb2540fd421d7484213e14d5a6f4c7c58c1287b68cdbd3", func := "linkboy/linkboylaw08.NodeOrders", spec := "nodeOrders", unfollowed := true, recurses := true, apart := false, narrowed := true }
def NodeOrdersUptoSaid : Prop := nodeOrdersUptoRow.holds Try.pinned (OpenSpec.upto nodeOrdersSpec)

/-- 'linkboylaw08.NodeChecks', WHERE WHAT IT READS IS OF BULK AT MOST 1048576: true; the input reads as it did. -/
def nodeChecksUptoRow : OpenClaim := { program := "ytdaanpgdjjodcaa", sum := "8f56246bf121114feceb2540fd421d7484213e14d5a6f4c7c58c1287b68cdbd3", func := "linkboy/linkboylaw08.NodeChecks", spec := "nodeChecks", unfollowed := true, recurses := true, apart := false, narrowed := true }
def NodeChecksUptoSaid : Prop := nodeChecksUptoRow.holds Try.pinned (OpenSpec.upto nodeChecksSpec)

/-- 'linkboylaw08.NodeNights', WHERE WHAT IT READS IS OF BULK AT MOST 1048576: true; the input reads as it did. -/
def nodeNightsUptoRow : OpenClaim := { program := "ytdaanpgdjjodcaa", sum := "8f56246bf121114feceb2540fd421d7484213e14d5a6f4c7c58c1287b68cdbd3", func := "linkboy/linkboylaw08.NodeNights", spec := "nodeNights", unfollowed := true, recurses := true, apart := false, narrowed := true }
def NodeNightsUptoSaid : Prop := nodeNightsUptoRow.holds Try.pinned (OpenSpec.upto nodeNightsSpec)

/-- 'linkboylaw08.NodeMerges', WHERE WHAT IT READS IS OF BULK AT MOST 1048576: true; the input reads as it did. -/
def nodeMergesUptoRow : OpenClaim := { program := "ytdaanpgdjjodcaa", sum := "8f56246bf121114feceb2540fd421d7484213e14d5a6f4c7c58c1287b68cdbd3", func := "linkboy/linkboylaw08.NodeMerges", spec := "nodeMerges", unfollowed := true, recurses := true, apart := false, narrowed := true }
def NodeMergesUptoSaid : Prop := nodeMergesUptoRow.holds Try.pinned (OpenSpec.upto nodeMergesSpec)

/-- 'linkboylaw08.NodeReports', WHERE WHAT IT READS IS OF BULK AT MOST 1048576: true; the input reads as it did. -/
def nodeReportsUptoRow : OpenClaim := { program := "ytdaanpgdjjodcaa", sum := "8f56246bf121114feceb2540fd421d7484213e14d5a6f4c7c58c1287b68cdbd3", func := "linkboy/linkboylaw08.NodeReports", spec := "nodeReports", unfollowed := true, recurses := true, apart := false, narrowed := true }
def NodeReportsUptoSaid : Prop := nodeReportsUptoRow.holds Try.pinned (OpenSpec.upto nodeReportsSpec)

end Rows
end Go.Proofs.Ytdaanpgdjjodcaa

/-
  NARROWER THAN 'FOR EVERY INPUT', by the rows' own cells (each row's printed sentence says how): RoundChecks: laid · RoundTimes: laid · RoundJudges: laid · RoundFinds: laid · RoundInserts: laid.
  DERIVED. THE GIVEN ROWS OF THIS SEAT. 5 by the template 'for every input the law returns true; each argument reads behind the call as it read before'; 0 by the template 'total and deterministic' (their statements: YtkojpnkknehhmaaGreatDoorTotals.lean).
  GIVEN WITH THE SEED: the statements are not yours to turn. If you find one false, say at which input.
  Laid BY PROGRAM, IN A SANDBOX (cutbox-rows.mjs): the forced cells as the released guide's own fill.sh prints them over the translation 03c205c17d4bd034… (all of the seat's roots in one cut). By AI agents, Wed Nov 11 2026. No macro, syntax, notation, axiom, sorry.
-/
import Derived.Test.YtkojpnkknehhmaaGreatDoorChecked
import GoSem.Claim
import GoSem.ClaimJoined
import GoSem.ClaimMapViews
import Derived.JoinedTies
import Derived.KernelRfl
namespace Go.Proofs.YtkojpnkknehhmaaGreatDoor
/- THE CELL 'sum', in the pinned program and in every row, IS THE sha256 OF THE DUMP (.gsa) THAT YtkojpnkknehhmaaGreatDoorProg.lean LOADS. Nothing in Lean hashes anything: it is a label: what it is worth is what the hold of that sum in a sandbox is worth. -/
noncomputable def Tryz.pinned : Pinned := { name := "ytkojpnkknehhmaagreatdoor", sum := "03c205c17d4bd034859ba66b647a9a6740063b9a8b65a8942dfaada4e349cb72", checked := Tryz.checked }
namespace Rows
def none {H : Type} : Left H := { results := [], args := [] }

/- WHAT THE LISTED PACKAGE-LEVEL VARIABLES READ AS WHEN THE CALL BEGINS. Each datum BY PROGRAM (the guide's laid-datum.mjs) off the statement by which the dump's own 'gosem.cut.vars' lays the variable. In a bare row this is a premise. The card (YtkojpnkknehhmaaGreatDoorCards.lean) ties it to the program's text. -/
def laid_linkboy_round_never {H : Type} : DataW H := .agg [.lit (.int .i64 1), .lit (.int .i64 0)]

/-- 'linkboylaw11.RoundChecks': WHATEVER THE INPUT: true; the input reads as it did. -/
def roundChecksSpec : ChangeSpec := { name := "roundChecks", fn := fun _ => fun
  | [d1, d2] => { results := [.lit (.bool true)], args := [d1, d2] }
  | _ => none }
def roundChecksRow : OpenClaim := { program := "ytkojpnkknehhmaagreatdoor", sum := "03c205c17d4bd034859ba66b647a9a6740063b9a8b65a8942dfaada4e349cb72", func := "linkboy/linkboylaw11.RoundChecks", spec := "roundChecks", inPlace := ["math/bits.Add64", "math/bits.Sub64"], unfollowed := true, recurses := true, named := ["linkboy/round.never", "math/bits.divideError", "math/bits.overflowError"], plainKeys := false, apart := false, laid := [("linkboy/round.never", laid_linkboy_round_never)] }
def RoundChecksSaid : Prop := roundChecksRow.holds Tryz.pinned (OpenSpec.ofChange roundChecksSpec)

/-- ITS FALSE NEIGHBOUR: 'it returns false'. Refute it at one input. -/
def roundChecksWrong : ChangeSpec := { name := "roundChecks", fn := fun _ => fun
  | [d1, d2] => { results := [.lit (.bool false)], args := [d1, d2] }
  | _ => none }
def RoundChecksWrongFalsely : Prop := roundChecksRow.holds Tryz.pinned (OpenSpec.ofChange roundChecksWrong)

/-- 'linkboylaw11.RoundTimes': WHATEVER THE INPUT: true; the input reads as it did. -/
def roundTimesSpec : ChangeSpec := { name := "roundTimes", fn := fun _ => fun
  | [d1, d2, d3] => { results := [.lit (.bool true)], args := [d1, d2, d3] }
  | _ => none }
def roundTimesRow : OpenClaim := { program := "ytkojpnkknehhmaagreatdoor", sum := "03c205c17d4bd034859ba66b647a9a6740063b9a8b65a8942dfaada4e349cb72", func := "linkboy/linkboylaw11.RoundTimes", spec := "roundTimes", inPlace := ["math/bits.Add64", "math/bits.Sub64"], unfollowed := true, recurses := true, named := ["linkboy/round.never", "math/bits.divideError", "math/bits.overflowError"], plainKeys := false, apart := false, laid := [("linkboy/round.never", laid_linkboy_round_never)] }
def RoundTimesSaid : Prop := roundTimesRow.holds Tryz.pinned (OpenSpec.ofChange roundTimesSpec)

/-- ITS FALSE NEIGHBOUR: 'it returns false'. Refute it at one input. -/
def roundTimesWrong : ChangeSpec := { name := "roundTimes", fn := fun _ => fun
  | [d1, d2, d3] => { results := [.lit (.bool false)], args := [d1, d2, d3] }
  | _ => none }
def RoundTimesWrongFalsely : Prop := roundTimesRow.holds Tryz.pinned (OpenSpec.ofChange roundTimesWrong)

/-- 'linkboylaw11.RoundJudges': WHATEVER THE INPUT: true; the input reads as it did. -/
def roundJudgesSpec : ChangeSpec := { name := "roundJudges", fn := fun _ => fun
  | [d1, d2] => { results := [.lit (.bool true)], args := [d1, d2] }
  | _ => none }
def roundJudgesRow : OpenClaim := { program := "ytkojpnkknehhmaagreatdoor", sum := "03c205c17d4bd034859ba66b647a9a6740063b9a8b65a8942dfaada4e349cb72", func := "linkboy/linkboylaw11.RoundJudges", spec := "roundJudges", inPlace := ["math/bits.Add64", "math/bits.Sub64"], unfollowed := true, recurses := true, named := ["linkboy/round.never", "math/bits.divideError", "math/bits.overflowError"], plainKeys := false, apart := false, laid := [("linkboy/round.never", laid_linkboy_round_never)] }
def RoundJudgesSaid : Prop := roundJudgesRow.holds Tryz.pinned (OpenSpec.ofChange roundJudgesSpec)

/-- ITS FALSE NEIGHBOUR: 'it returns false'. Refute it at one input. -/
def roundJudgesWrong : ChangeSpec := { name := "roundJudges", fn := fun _ => fun
  | [d1, d2] => { results := [.lit (.bool false)], args := [d1, d2] }
  | _ => none }
def RoundJudgesWrongFalsely : Prop := roundJudgesRow.holds Tryz.pinned (OpenSpec.ofChange roundJudgesWrong)

/-- 'linkboylaw11.RoundFinds': WHATEVER THE INPUT: true; the input reads as it did. -/
def roundFindsSpec : ChangeSpec := { name := "roundFinds", fn := fun _ => fun
  | [d] => { results := [.lit (.bool true)], args := [d] }
  | _ => none }
def roundFindsRow : OpenClaim := { program := "ytkojpnkknehhmaagreatdoor", sum := "03c205c17d4bd034859ba66b647a9a6740063b9a8b65a8942dfaada4e349cb72", func := "linkboy/linkboylaw11.RoundFinds", spec := "roundFinds", inPlace := ["math/bits.Add64", "math/bits.Sub64"], unfollowed := true, recurses := true, named := ["linkboy/round.never", "math/bits.divideError", "math/bits.overflowError"], plainKeys := false, apart := false, laid := [("linkboy/round.never", laid_linkboy_round_never)] }
def RoundFindsSaid : Prop := roundFindsRow.holds Tryz.pinned (OpenSpec.ofChange roundFindsSpec)

/-- ITS FALSE NEIGHBOUR: 'it returns false'. Refute it at one input. -/
def roundFindsWrong : ChangeSpec := { name := "roundFinds", fn := fun _ => fun
  | [d] => { results := [.lit (.bool false)], args := [d] }
  | _ => none }
def RoundFindsWrongFalsely : Prop := roundFindsRow.holds Tryz.pinned (OpenSpec.ofChange roundFindsWrong)

/-- 'linkboylaw11.RoundInserts': WHATEVER THE INPUT: true; the input reads as it did. -/
def roundInsertsSpec : ChangeSpec := { name := "roundInserts", fn := fun _ => fun
  | [d1, d2, d3] => { results := [.lit (.bool true)], args := [d1, d2, d3] }
  | _ => none }
def roundInsertsRow : OpenClaim := { program := "ytkojpnkknehhmaagreatdoor", sum := "03c205c17d4bd034859ba66b647a9a6740063b9a8b65a8942dfaada4e349cb72", func := "linkboy/linkboylaw11.RoundInserts", spec := "roundInserts", inPlace := ["math/bits.Add64", "math/bits.Sub64", "slices.overlaps[int]"], unfollowed := true, recurses := true, named := ["linkboy/round.never", "math/bits.divideError", "math/bits.overflowError"], plainKeys := false, apart := false, laid := [("linkboy/round.never", laid_linkboy_round_never)] }
def RoundInsertsSaid : Prop := roundInsertsRow.holds Tryz.pinned (OpenSpec.ofChange roundInsertsSpec)

/-- ITS FALSE NEIGHBOUR: 'it returns false'. Refute it at one input. -/
def roundInsertsWrong : ChangeSpec := { name := "roundInserts", fn := fun _ => fun
  | [d1, d2, d3] => { results := [.lit (.bool false)], args := [d1, d2, d3] }
  | _ => none }
def RoundInsertsWrongFalsely : Prop := roundInsertsRow.holds Tryz.pinned (OpenSpec.ofChange roundInsertsWrong)

/- THE SECOND FORM. 'bulk': how many values and letters a reading holds, each counted each time it is reached (what is shared counts as often as it is met; a slice's spare places count too). A statement '..UptoSaid' is the law's where the arguments, and the package variables that the reading takes, are together of bulk at most 1048576: NARROWER than '..Said'. Prove '..Said' where nothing that the law and all that it calls make is longer than what came in: it says more and counts as full. Else prove '..UptoSaid'. A law counts once. -/
mutual
def uptoBulk {H : Type} : DataW H → Nat
  | .lit (.string bytes) => bytes.length + 1
  | .lit _ => 1
  | .nil => 1
  | .ptr d => uptoBulk d + 1
  | .slice elems spare => uptoBulkAll elems + uptoBulkAll spare + 1
  | .agg parts => uptoBulkAll parts + 1
  | .iface _ d => uptoBulk d + 1
  | .map entries => uptoBulkEntries entries + 1
  | .held _ => 1
def uptoBulkAll {H : Type} : List (DataW H) → Nat
  | [] => 0
  | d :: r => uptoBulk d + uptoBulkAll r
def uptoBulkEntries {H : Type} : List (Lit × DataW H) → Nat
  | [] => 0
  | x :: r => uptoBulkEntry x + uptoBulkEntries r
def uptoBulkEntry {H : Type} : Lit × DataW H → Nat
  | (.string bytes, d) => bytes.length + uptoBulk d + 1
  | (_, d) => uptoBulk d + 1
 end
def uptoSmall : (H : Type) → List (DataW H) → Bool := fun _ ds => decide (uptoBulkAll ds ≤ 1048576)
def OpenSpec.upto (s : _root_.Go.ChangeSpec) : _root_.Go.OpenSpec := { _root_.Go.OpenSpec.ofChange s with cond := some uptoSmall }

/-- 'linkboylaw11.RoundChecks', WHERE WHAT IT READS IS OF BULK AT MOST 1048576: true; the input reads as it did. -/
def roundChecksUptoRow : OpenClaim := { program := "ytkojpnkknehhmaagreatdoor", sum := "03c205c17d4bd034859ba66b647a9a6740063b9a8b65a8942dfaada4e349cb72", func := "linkboy/linkboylaw11.RoundChecks", spec := "roundChecks", inPlace := ["math/bits.Add64", "math/bits.Sub64"], unfollowed := true, recurses := true, named := ["linkboy/round.never", "math/bits.divideError", "math/bits.overflowError"], plainKeys := false, apart := false, laid := [("linkboy/round.never", laid_linkboy_round_never)], narrowed := true }
def RoundChecksUptoSaid : Prop := roundChecksUptoRow.holds Tryz.pinned (OpenSpec.upto roundChecksSpec)

/-- 'linkboylaw11.RoundTimes', WHERE WHAT IT READS IS OF BULK AT MOST 1048576: true; the input reads as it did. -/
def roundTimesUptoRow : OpenClaim := { program := "ytkojpnkknehhmaagreatdoor", sum := "03c205c17d4bd034859ba66b647a9a6740063b9a8b65a8942dfaada4e349cb72", func := "linkboy/linkboylaw11.RoundTimes", spec := "roundTimes", inPlace := ["math/bits.Add64", "math/bits.Sub64"], unfollowed := true, recurses := true, named := ["linkboy/round.never", "math/bits.divideError", "math/bits.overflowError"], plainKeys := false, apart := false, laid := [("linkboy/round.never", laid_linkboy_round_never)], narrowed := true }
def RoundTimesUptoSaid : Prop := roundTimesUptoRow.holds Tryz.pinned (OpenSpec.upto roundTimesSpec)

/-- 'linkboylaw11.RoundJudges', WHERE WHAT IT READS IS OF BULK AT MOST 1048576: true; the input reads as it did. -/
def roundJudgesUptoRow : OpenClaim := { program := "ytkojpnkknehhmaagreatdoor", sum := "03c205c17d4bd034859ba66b647a9a6740063b9a8b65a8942dfaada4e349cb72", func := "linkboy/linkboylaw11.RoundJudges", spec := "roundJudges", inPlace := ["math/bits.Add64", "math/bits.Sub64"], unfollowed := true, recurses := true, named := ["linkboy/round.never", "math/bits.divideError", "math/bits.overflowError"], plainKeys := false, apart := false, laid := [("linkboy/round.never", laid_linkboy_round_never)], narrowed := true }
def RoundJudgesUptoSaid : Prop := roundJudgesUptoRow.holds Tryz.pinned (OpenSpec.upto roundJudgesSpec)

/-- 'linkboylaw11.RoundFinds', WHERE WHAT IT READS IS OF BULK AT MOST 1048576: true; the input reads as it did. -/
def roundFindsUptoRow : OpenClaim := { program := "ytkojpnkknehhmaagreatdoor", sum := "03c205c17d4bd034859ba66b647a9a6740063b9a8b65a8942dfaada4e349cb72", func := "linkboy/linkboylaw11.RoundFinds", spec := "roundFinds", inPlace := ["math/bits.Add64", "math/bits.Sub64"], unfollowed := true, recurses := true, named := ["linkboy/round.never", "math/bits.divideError", "math/bits.overflowError"], plainKeys := false, apart := false, laid := [("linkboy/round.never", laid_linkboy_round_never)], narrowed := true }
def RoundFindsUptoSaid : Prop := roundFindsUptoRow.holds Tryz.pinned (OpenSpec.upto roundFindsSpec)

/-- 'linkboylaw11.RoundInserts', WHERE WHAT IT READS IS OF BULK AT MOST 1048576: true; the input reads as it did. -/
def roundInsertsUptoRow : OpenClaim := { program := "ytkojpnkknehhmaagreatdoor", sum := "03c205c17d4bd034859ba66b647a9a6740063b9a8b65a8942dfaada4e349cb72", func := "linkboy/linkboylaw11.RoundInserts", spec := "roundInserts", inPlace := ["math/bits.Add64", "math/bits.Sub64", "slices.overlaps[int]"], unfollowed := true, recurses := true, named := ["linkboy/round.never", "math/bits.divideError", "math/bits.overflowError"], plainKeys := false, apart := false, laid := [("linkboy/round.never", laid_linkboy_round_never)], narrowed := true }
def RoundInsertsUptoSaid : Prop := roundInsertsUptoRow.holds Tryz.pinned (OpenSpec.upto roundInsertsSpec)

end Rows
end Go.Proofs.YtkojpnkknehhmaaGreatDoor

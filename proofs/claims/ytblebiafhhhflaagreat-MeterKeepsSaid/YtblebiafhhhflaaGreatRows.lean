/-
  No cell of these rows narrows 'for every input' (looked for: loops, veiled, ifaces, maps, wideKeys, modest, calm, conditions, laid).
  DERIVED. THE GIVEN ROWS OF THIS SEAT. 7 by the template 'for every input the law returns true; each argument reads behind the call as it read before'; 0 by the template 'total and deterministic' (their statements: YtblebiafhhhflaaGreatTotals.lean).
  GIVEN WITH THE SEED: the statements are not yours to turn. If you find one false, say at which input.
  Laid BY PROGRAM, IN A SANDBOX (cutbox-rows.mjs): the forced cells as the released guide's own fill.sh prints them over the translation 44ec8cb4832dca60… (all of the seat's roots in one cut). By AI agents, Wed Nov 11 2026. No macro, syntax, notation, axiom, sorry.
-/
import Derived.Test.YtblebiafhhhflaaGreatChecked
import GoSem.Claim
import GoSem.ClaimJoined
import GoSem.ClaimMapViews
import Derived.JoinedTies
import Derived.KernelRfl
namespace Go.Proofs.YtblebiafhhhflaaGreat
/- THE CELL 'sum', in the pinned program and in every row, IS THE sha256 OF THE DUMP (.gsa) THAT YtblebiafhhhflaaGreatProg.lean LOADS. Nothing in Lean hashes anything: it is a label: what it is worth is what the hold of that sum in a sandbox is worth. -/
noncomputable def Tryz.pinned : Pinned := { name := "ytblebiafhhhflaagreat", sum := "44ec8cb4832dca60baaaf0cf8351294872db001e9508a6bead28465eac7c5905", checked := Tryz.checked }
namespace Rows
def none {H : Type} : Left H := { results := [], args := [] }

/-- 'linkboylaw09.MeterSplits': WHATEVER THE INPUT: true; the input reads as it did. -/
def meterSplitsSpec : ChangeSpec := { name := "meterSplits", fn := fun _ => fun
  | [d1, d2, d3] => { results := [.lit (.bool true)], args := [d1, d2, d3] }
  | _ => none }
def meterSplitsRow : OpenClaim := { program := "ytblebiafhhhflaagreat", sum := "44ec8cb4832dca60baaaf0cf8351294872db001e9508a6bead28465eac7c5905", func := "linkboy/linkboylaw09.MeterSplits", spec := "meterSplits", inPlace := ["math/bits.Add64", "math/bits.Sub64"], unfollowed := true, recurses := true, named := ["math/bits.divideError", "math/bits.overflowError"], apart := false }
def MeterSplitsSaid : Prop := meterSplitsRow.holds Tryz.pinned (OpenSpec.ofChange meterSplitsSpec)

/-- ITS FALSE NEIGHBOUR: 'it returns false'. Refute it at one input. -/
def meterSplitsWrong : ChangeSpec := { name := "meterSplits", fn := fun _ => fun
  | [d1, d2, d3] => { results := [.lit (.bool false)], args := [d1, d2, d3] }
  | _ => none }
def MeterSplitsWrongFalsely : Prop := meterSplitsRow.holds Tryz.pinned (OpenSpec.ofChange meterSplitsWrong)

/-- 'linkboylaw09.MeterDims': WHATEVER THE INPUT: true; the input reads as it did. -/
def meterDimsSpec : ChangeSpec := { name := "meterDims", fn := fun _ => fun
  | [d1, d2, d3] => { results := [.lit (.bool true)], args := [d1, d2, d3] }
  | _ => none }
def meterDimsRow : OpenClaim := { program := "ytblebiafhhhflaagreat", sum := "44ec8cb4832dca60baaaf0cf8351294872db001e9508a6bead28465eac7c5905", func := "linkboy/linkboylaw09.MeterDims", spec := "meterDims", inPlace := ["math/bits.Add64", "math/bits.Sub64"], unfollowed := true, recurses := true, named := ["math/bits.divideError", "math/bits.overflowError"], apart := false }
def MeterDimsSaid : Prop := meterDimsRow.holds Tryz.pinned (OpenSpec.ofChange meterDimsSpec)

/-- ITS FALSE NEIGHBOUR: 'it returns false'. Refute it at one input. -/
def meterDimsWrong : ChangeSpec := { name := "meterDims", fn := fun _ => fun
  | [d1, d2, d3] => { results := [.lit (.bool false)], args := [d1, d2, d3] }
  | _ => none }
def MeterDimsWrongFalsely : Prop := meterDimsRow.holds Tryz.pinned (OpenSpec.ofChange meterDimsWrong)

/-- 'linkboylaw09.MeterNights': WHATEVER THE INPUT: true; the input reads as it did. -/
def meterNightsSpec : ChangeSpec := { name := "meterNights", fn := fun _ => fun
  | [d1, d2] => { results := [.lit (.bool true)], args := [d1, d2] }
  | _ => none }
def meterNightsRow : OpenClaim := { program := "ytblebiafhhhflaagreat", sum := "44ec8cb4832dca60baaaf0cf8351294872db001e9508a6bead28465eac7c5905", func := "linkboy/linkboylaw09.MeterNights", spec := "meterNights", inPlace := ["math/bits.Add64", "math/bits.Sub64"], unfollowed := true, recurses := true, named := ["math/bits.divideError", "math/bits.overflowError"], apart := false }
def MeterNightsSaid : Prop := meterNightsRow.holds Tryz.pinned (OpenSpec.ofChange meterNightsSpec)

/-- ITS FALSE NEIGHBOUR: 'it returns false'. Refute it at one input. -/
def meterNightsWrong : ChangeSpec := { name := "meterNights", fn := fun _ => fun
  | [d1, d2] => { results := [.lit (.bool false)], args := [d1, d2] }
  | _ => none }
def MeterNightsWrongFalsely : Prop := meterNightsRow.holds Tryz.pinned (OpenSpec.ofChange meterNightsWrong)

/-- 'linkboylaw09.MeterStronger': WHATEVER THE INPUT: true; the input reads as it did. -/
def meterStrongerSpec : ChangeSpec := { name := "meterStronger", fn := fun _ => fun
  | [d1, d2, d3] => { results := [.lit (.bool true)], args := [d1, d2, d3] }
  | _ => none }
def meterStrongerRow : OpenClaim := { program := "ytblebiafhhhflaagreat", sum := "44ec8cb4832dca60baaaf0cf8351294872db001e9508a6bead28465eac7c5905", func := "linkboy/linkboylaw09.MeterStronger", spec := "meterStronger", inPlace := ["math/bits.Add64", "math/bits.Sub64"], unfollowed := true, recurses := true, named := ["math/bits.divideError", "math/bits.overflowError"], apart := false }
def MeterStrongerSaid : Prop := meterStrongerRow.holds Tryz.pinned (OpenSpec.ofChange meterStrongerSpec)

/-- ITS FALSE NEIGHBOUR: 'it returns false'. Refute it at one input. -/
def meterStrongerWrong : ChangeSpec := { name := "meterStronger", fn := fun _ => fun
  | [d1, d2, d3] => { results := [.lit (.bool false)], args := [d1, d2, d3] }
  | _ => none }
def MeterStrongerWrongFalsely : Prop := meterStrongerRow.holds Tryz.pinned (OpenSpec.ofChange meterStrongerWrong)

/-- 'linkboylaw09.MeterExplains': WHATEVER THE INPUT: true; the input reads as it did. -/
def meterExplainsSpec : ChangeSpec := { name := "meterExplains", fn := fun _ => fun
  | [d1, d2, d3] => { results := [.lit (.bool true)], args := [d1, d2, d3] }
  | _ => none }
def meterExplainsRow : OpenClaim := { program := "ytblebiafhhhflaagreat", sum := "44ec8cb4832dca60baaaf0cf8351294872db001e9508a6bead28465eac7c5905", func := "linkboy/linkboylaw09.MeterExplains", spec := "meterExplains", inPlace := ["math/bits.Add64", "math/bits.Sub64"], unfollowed := true, recurses := true, named := ["math/bits.divideError", "math/bits.overflowError"], apart := false }
def MeterExplainsSaid : Prop := meterExplainsRow.holds Tryz.pinned (OpenSpec.ofChange meterExplainsSpec)

/-- ITS FALSE NEIGHBOUR: 'it returns false'. Refute it at one input. -/
def meterExplainsWrong : ChangeSpec := { name := "meterExplains", fn := fun _ => fun
  | [d1, d2, d3] => { results := [.lit (.bool false)], args := [d1, d2, d3] }
  | _ => none }
def MeterExplainsWrongFalsely : Prop := meterExplainsRow.holds Tryz.pinned (OpenSpec.ofChange meterExplainsWrong)

/-- 'linkboylaw09.MeterContains': WHATEVER THE INPUT: true; the input reads as it did. -/
def meterContainsSpec : ChangeSpec := { name := "meterContains", fn := fun _ => fun
  | [d1, d2] => { results := [.lit (.bool true)], args := [d1, d2] }
  | _ => none }
def meterContainsRow : OpenClaim := { program := "ytblebiafhhhflaagreat", sum := "44ec8cb4832dca60baaaf0cf8351294872db001e9508a6bead28465eac7c5905", func := "linkboy/linkboylaw09.MeterContains", spec := "meterContains", inPlace := ["math/bits.Add64", "math/bits.Sub64"], unfollowed := true, recurses := true, named := ["math/bits.divideError", "math/bits.overflowError"], apart := false }
def MeterContainsSaid : Prop := meterContainsRow.holds Tryz.pinned (OpenSpec.ofChange meterContainsSpec)

/-- ITS FALSE NEIGHBOUR: 'it returns false'. Refute it at one input. -/
def meterContainsWrong : ChangeSpec := { name := "meterContains", fn := fun _ => fun
  | [d1, d2] => { results := [.lit (.bool false)], args := [d1, d2] }
  | _ => none }
def MeterContainsWrongFalsely : Prop := meterContainsRow.holds Tryz.pinned (OpenSpec.ofChange meterContainsWrong)

/-- 'linkboylaw09.MeterKeeps': WHATEVER THE INPUT: true; the input reads as it did. -/
def meterKeepsSpec : ChangeSpec := { name := "meterKeeps", fn := fun _ => fun
  | [d1, d2, d3] => { results := [.lit (.bool true)], args := [d1, d2, d3] }
  | _ => none }
def meterKeepsRow : OpenClaim := { program := "ytblebiafhhhflaagreat", sum := "44ec8cb4832dca60baaaf0cf8351294872db001e9508a6bead28465eac7c5905", func := "linkboy/linkboylaw09.MeterKeeps", spec := "meterKeeps", inPlace := ["math/bits.Add64", "math/bits.Sub64"], unfollowed := true, recurses := true, named := ["math/bits.divideError", "math/bits.overflowError"], apart := false }
def MeterKeepsSaid : Prop := meterKeepsRow.holds Tryz.pinned (OpenSpec.ofChange meterKeepsSpec)

/-- ITS FALSE NEIGHBOUR: 'it returns false'. Refute it at one input. -/
def meterKeepsWrong : ChangeSpec := { name := "meterKeeps", fn := fun _ => fun
  | [d1, d2, d3] => { results := [.lit (.bool false)], args := [d1, d2, d3] }
  | _ => none }
def MeterKeepsWrongFalsely : Prop := meterKeepsRow.holds Tryz.pinned (OpenSpec.ofChange meterKeepsWrong)

/- THE SECOND FORM. 'bulk': how many values and letters a reading holds, each counted each time it is reached (what is shared counts as often as it is met; a slice's spare places count too). A statement '..UptoSaid' is the law's where the arguments, and the package variables that the reading takes, are together of bulk at most 1048576: NARROWER than '..Said'. Prove '..Said' where nothing that the law and all that it calls make is longer than what came in: it says more and counts as full. Else prove '..UptoSaid'. A law counts once. -/
mutual
def uptoBulk {H : Type} : DataW H → Nat
  | .lit (.string bytes) => bytes.length + 1
  | .lit _ => 1
  | .nil => 1
  | .ptr d => uptoBulk d + 1
  | .slice elems spare => uptoBulkAll elems + uptoBulkAll spare + 1
  | .agg parts => uptoBulkAll parts + 1
  | .iface _ d => uptoBulk d + 1
  | .map entries => uptoBulkEntries entries + 1
  | .held _ => 1
def uptoBulkAll {H : Type} : List (DataW H) → Nat
  | [] => 0
  | d :: r => uptoBulk d + uptoBulkAll r
def uptoBulkEntries {H : Type} : List (Lit × DataW H) → Nat
  | [] => 0
  | x :: r => uptoBulkEntry x + uptoBulkEntries r
def uptoBulkEntry {H : Type} : Lit × DataW H → Nat
  | (.string bytes, d) => bytes.length + uptoBulk d + 1
  | (_, d) => uptoBulk d + 1
 end
def uptoSmall : (H : Type) → List (DataW H) → Bool := fun _ ds => decide (uptoBulkAll ds ≤ 1048576)
def OpenSpec.upto (s : _root_.Go.ChangeSpec) : _root_.Go.OpenSpec := { _root_.Go.OpenSpec.ofChange s with cond := some uptoSmall }

/-- 'linkboylaw09.MeterSplits', WHERE WHAT IT READS IS OF BULK AT MOST 1048576: true; the input reads as it did. -/
def meterSplitsUptoRow : OpenClaim := { program := "ytblebiafhhhflaagreat", sum := "44ec8cb4832dca60baaaf0cf8351294872db001e9508a6bead28465eac7c5905", func := "linkboy/linkboylaw09.MeterSplits", spec := "meterSplits", inPlace := ["math/bits.Add64", "math/bits.Sub64"], unfollowed := true, recurses := true, named := ["math/bits.divideError", "math/bits.overflowError"], apart := false, narrowed := true }
def MeterSplitsUptoSaid : Prop := meterSplitsUptoRow.holds Tryz.pinned (OpenSpec.upto meterSplitsSpec)

/-- 'linkboylaw09.MeterDims', WHERE WHAT IT READS IS OF BULK AT MOST 1048576: true; the input reads as it did. -/
def meterDimsUptoRow : OpenClaim := { program := "ytblebiafhhhflaagreat", sum := "44ec8cb4832dca60baaaf0cf8351294872db001e9508a6bead28465eac7c5905", func := "linkboy/linkboylaw09.MeterDims", spec := "meterDims", inPlace := ["math/bits.Add64", "math/bits.Sub64"], unfollowed := true, recurses := true, named := ["math/bits.divideError", "math/bits.overflowError"], apart := false, narrowed := true }
def MeterDimsUptoSaid : Prop := meterDimsUptoRow.holds Tryz.pinned (OpenSpec.upto meterDimsSpec)

/-- 'linkboylaw09.MeterNights', WHERE WHAT IT READS IS OF BULK AT MOST 1048576: true; the input reads as it did. -/
def meterNightsUptoRow : OpenClaim := { program := "ytblebiafhhhflaagreat", sum := "44ec8cb4832dca60baaaf0cf8351294872db001e9508a6bead28465eac7c5905", func := "linkboy/linkboylaw09.MeterNights", spec := "meterNights", inPlace := ["math/bits.Add64", "math/bits.Sub64"], unfollowed := true, recurses := true, named := ["math/bits.divideError", "math/bits.overflowError"], apart := false, narrowed := true }
def MeterNightsUptoSaid : Prop := meterNightsUptoRow.holds Tryz.pinned (OpenSpec.upto meterNightsSpec)

/-- 'linkboylaw09.MeterStronger', WHERE WHAT IT READS IS OF BULK AT MOST 1048576: true; the input reads as it did. -/
def meterStrongerUptoRow : OpenClaim := { program := "ytblebiafhhhflaagreat", sum := "44ec8cb4832dca60baaaf0cf8351294872db001e9508a6bead28465eac7c5905", func := "linkboy/linkboylaw09.MeterStronger", spec := "meterStronger", inPlace := ["math/bits.Add64", "math/bits.Sub64"], unfollowed := true, recurses := true, named := ["math/bits.divideError", "math/bits.overflowError"], apart := false, narrowed := true }
def MeterStrongerUptoSaid : Prop := meterStrongerUptoRow.holds Tryz.pinned (OpenSpec.upto meterStrongerSpec)

/-- 'linkboylaw09.MeterExplains', WHERE WHAT IT READS IS OF BULK AT MOST 1048576: true; the input reads as it did. -/
def meterExplainsUptoRow : OpenClaim := { program := "ytblebiafhhhflaagreat", sum := "44ec8cb4832dca60baaaf0cf8351294872db001e9508a6bead28465eac7c5905", func := "linkboy/linkboylaw09.MeterExplains", spec := "meterExplains", inPlace := ["math/bits.Add64", "math/bits.Sub64"], unfollowed := true, recurses := true, named := ["math/bits.divideError", "math/bits.overflowError"], apart := false, narrowed := true }
def MeterExplainsUptoSaid : Prop := meterExplainsUptoRow.holds Tryz.pinned (OpenSpec.upto meterExplainsSpec)

/-- 'linkboylaw09.MeterContains', WHERE WHAT IT READS IS OF BULK AT MOST 1048576: true; the input reads as it did. -/
def meterContainsUptoRow : OpenClaim := { program := "ytblebiafhhhflaagreat", sum := "44ec8cb4832dca60baaaf0cf8351294872db001e9508a6bead28465eac7c5905", func := "linkboy/linkboylaw09.MeterContains", spec := "meterContains", inPlace := ["math/bits.Add64", "math/bits.Sub64"], unfollowed := true, recurses := true, named := ["math/bits.divideError", "math/bits.overflowError"], apart := false, narrowed := true }
def MeterContainsUptoSaid : Prop := meterContainsUptoRow.holds Tryz.pinned (OpenSpec.upto meterContainsSpec)

/-- 'linkboylaw09.MeterKeeps', WHERE WHAT IT READS IS OF BULK AT MOST 1048576: true; the input reads as it did. -/
def meterKeepsUptoRow : OpenClaim := { program := "ytblebiafhhhflaagreat", sum := "44ec8cb4832dca60baaaf0cf8351294872db001e9508a6bead28465eac7c5905", func := "linkboy/linkboylaw09.MeterKeeps", spec := "meterKeeps", inPlace := ["math/bits.Add64", "math/bits.Sub64"], unfollowed := true, recurses := true, named := ["math/bits.divideError", "math/bits.overflowError"], apart := false, narrowed := true }
def MeterKeepsUptoSaid : Prop := meterKeepsUptoRow.holds Tryz.pinned (OpenSpec.upto meterKeepsSpec)

end Rows
end Go.Proofs.YtblebiafhhhflaaGreat

/- The plain functions of chapter 8. -/
import Derived.Test.YtdaanpgdjjodcaaT
namespace Go.Proofs.Ytdaanpgdjjodcaa
open Go.RowKit
abbrev Sp := SpecOf Try.prog
def inB (n lo hi : Int) : Bool := decide (lo ≤ n) && decide (n ≤ hi)
theorem inB_iff {n lo hi : Int} : inB n lo hi = true ↔ lo ≤ n ∧ n ≤ hi := by simp [inB]
def goodB (x : TSnNight) : Bool := inB x.On 0 86400 && (decide (x.On < x.Off) && decide (x.Off ≤ x.On + 86400))
def covB (x y : TSnNight) : Bool := decide (x.On ≤ y.On) && decide (y.Off ≤ x.Off)
def checkS (c : TNdSet) : Int :=
  if !(inB c.Floor 1 1000 && inB c.Hold 1 86400 && inB c.CellOn 0 1000000000 && inB c.CellOff 0 1000000000) then 7
  else if !(goodB c.Core && goodB c.Default && covB c.Default c.Core && decide (c.CellOn < c.CellOff)) then 2 else 0
def nightsS (c : TNdSet) : List TSnNight → Int
  | [] => 0
  | x :: r => if !goodB x then 2 else if !covB x c.Core then 181 else nightsS c r
def planS (c : TNdSet) (p : TNdPlan) : Int := if !inB p.First 0 40000 then 7 else if 40 < p.Nights.length then 3 else nightsS c p.Nights
def holdS (c : TNdSet) (h : TNdHold) : Int :=
  if !(inB h.Level 0 1000 && inB h.From 0 4000000000 && inB h.Until 0 4000000000) then 7 else if h.Until ≤ h.From ∨ IntKind.i64.wrap (h.From + c.Hold) < h.Until then 2 else 0
def hzB (h : TNdHold) : Bool := h.From == 0 && h.Until == 0 && h.Level == 0
def heldB (c : TNdSet) (h : TNdHold) : Bool := hzB h || holdS c h == 0
def wildB (n : Int) : Bool := !inB n 0 1000000000
def nums (s : TNdState) : List Int := [s.Numbers0, s.Numbers1, s.Numbers2, s.Numbers3, s.Numbers4, s.Numbers5]
def stateB (c : TNdSet) (s : TNdState) : Bool :=
  s.Numbers0 == 0 && !(nums s).any wildB && inB s.Time 0 4000000000 && (s.Clock || decide (s.Time ≤ 0)) && planS c s.Plan == 0 && heldB c s.Dim && heldB c s.Force &&
  inB s.Version 0 1000000 && inB s.Level 0 1000 && inB s.Count 0 1000000000
def stateS (c : TNdSet) (s : TNdState) : Int := if checkS c ≠ 0 then checkS c else if stateB c s then 0 else 6
def newS (c : TNdSet) : TNdState × Int := if checkS c ≠ 0 then (.zero, checkS c) else ({ TNdState.zero with Broken := true, Level := 1000 }, 0)
def keptN (c : TNdSet) (s : TNdState) (day : Int) : TSnNight := if inB (day - s.Plan.First) 0 (s.Plan.Nights.length - 1) then s.Plan.Nights.getD (day - s.Plan.First).toNat .zero else c.Default
def nightS (c : TNdSet) (s : TNdState) (day : Int) : TSnNight × Int := if stateS c s ≠ 0 then (.zero, stateS c s) else if !inB day 0 40000 then (.zero, 7) else (keptN c s day, 0)
def hasB (c : TNdSet) (s : TNdState) (day : Int) : Bool := decide (0 ≤ day) && (decide ((keptN c s day).On ≤ s.Time - day * 86400) && decide (s.Time - day * 86400 < (keptN c s day).Off))
def clockB (c : TNdSet) (s : TNdState) : Bool := s.Clock && (hasB c s (s.Time / 86400) || hasB c s (s.Time / 86400 - 1))
def activeB (s : TNdState) (h : TNdHold) : Bool := s.Clock && (decide (h.From ≤ s.Time) && decide (s.Time < h.Until))
def darkB (c : TNdSet) (s : TNdState) : Bool := clockB c s || (!s.Broken && s.Dark) || (!s.Clock && s.Broken)
def levelS (c : TNdSet) (s : TNdState) : Int :=
  if darkB c s && activeB s s.Force then 1000 else if darkB c s && activeB s s.Dim then max c.Floor s.Dim.Level else if darkB c s then 1000 else if activeB s s.Force then s.Force.Level else 0
def afterS (c : TNdSet) (s : TNdState) : TNdState × Int := if s.Count = 1000000000 then (.zero, 3) else ({ s with Count := s.Count + 1, Level := levelS c s }, 0)
def shapedB (m : TNdMessage) : Bool :=
  inB m.Kind 1 5 && (m.Kind == 1 || m.Time == 0) && (m.Kind == 2 || (m.Plan.First == 0 && m.Plan.Nights.length == 0)) &&
  (m.Kind == 3 || m.Kind == 4 || hzB m.Hold) && (m.Kind == 5 || m.Version == 0)
def kindS (c : TNdSet) (m : TNdMessage) : Int :=
  if m.Kind = 1 then (if inB m.Time 0 4000000000 then 0 else 7) else if m.Kind = 2 then planS c m.Plan else if m.Kind = 5 then (if inB m.Version 1 1000000 then 0 else 7) else holdS c m.Hold
def num (s : TNdState) (k : Int) : Int := if k = 0 then s.Numbers0 else if k = 1 then s.Numbers1 else if k = 2 then s.Numbers2 else if k = 3 then s.Numbers3 else if k = 4 then s.Numbers4 else s.Numbers5
def setNum (s : TNdState) (k x : Int) : TNdState := if k = 0 then { s with Numbers0 := x } else if k = 1 then { s with Numbers1 := x } else if k = 2 then { s with Numbers2 := x } else if k = 3 then { s with Numbers3 := x } else if k = 4 then { s with Numbers4 := x } else { s with Numbers5 := x }
def refusedS (c : TNdSet) (s : TNdState) (m : TNdMessage) : Int :=
  if !shapedB m then 2 else if !inB m.Number 1 1000000000 then 7 else if m.Number ≤ num s m.Kind then 180 else kindS c m
def changeS (s : TNdState) (m : TNdMessage) : TNdState :=
  if m.Kind = 1 then { s with Clock := true, Time := m.Time } else if m.Kind = 2 then { s with Plan := m.Plan } else if m.Kind = 3 then { s with Dim := m.Hold } else if m.Kind = 4 then { s with Force := m.Hold } else { s with Version := m.Version }
def takeS (c : TNdSet) (s : TNdState) (m : TNdMessage) : TNdState × Int :=
  if stateS c s ≠ 0 then (.zero, stateS c s) else if refusedS c s m ≠ 0 then (.zero, refusedS c s m) else afterS c (changeS (setNum s m.Kind m.Number) m)
def tickB (s : TNdState) (sec li : Int) : Bool := inB sec 0 86400 && inB li (-1) 1000000000 && !(s.Clock && decide (4000000000 - sec < s.Time))
def tickC (c : TNdSet) (s : TNdState) (sec li : Int) : TNdState :=
  { s with Time := if s.Clock then s.Time + sec else s.Time, Broken := decide (li < 0), Dark := if li < 0 then s.Dark else if li ≤ c.CellOn then true else if c.CellOff ≤ li then false else s.Dark }
def tickS (c : TNdSet) (s : TNdState) (sec li : Int) : TNdState × Int :=
  if stateS c s ≠ 0 then (.zero, stateS c s) else if !tickB s sec li then (.zero, 7) else afterS c (tickC c s sec li)
def cutC (s : TNdState) : TNdState := { s with Clock := false, Time := 0, Broken := true, Dark := false }
def cutS (c : TNdSet) (s : TNdState) : TNdState × Int := if stateS c s ≠ 0 then (.zero, stateS c s) else afterS c (cutC s)
/-- An element of a list of structures, where the code looks at it. -/
theorem map_get {α : Type} {f : α → AV} {l : List α} {n : Int} (h0 : 0 ≤ n) (h : n < l.length) : ∃ x, l[n.toNat]? = some x ∧ (l.map f)[n.toNat]? = some (f x) := by
  have hn : n.toNat < l.length := by omega
  exact ⟨l[n.toNat], List.getElem?_eq_getElem hn, by rw [List.getElem?_map, List.getElem?_eq_getElem hn]; rfl⟩
theorem wrap1 {n m : Int} (h0 : 0 ≤ n) (h : n < m) (hm : m ≤ 9223372036854775807) : IntKind.i64.wrap (n + 1) = n + 1 := IntWalk.i64_in (n + 1) (by omega)
end Go.Proofs.Ytdaanpgdjjodcaa

/- The plain functions of chapter 6: names, checks. -/
import Derived.Test.YtbdbnpnichkcjaaT
namespace Go.Proofs.Ytbdbnpnichkcjaa
open Go.RowKit
abbrev Sp := SpecOf Try.prog
abbrev Sqf := SeqOf Try.prog
def inB (n lo hi : Int) : Bool := decide (lo ≤ n) && decide (n ≤ hi)
theorem inB_iff {n lo hi : Int} : inB n lo hi = true ↔ lo ≤ n ∧ n ≤ hi := by simp [inB]
def wiB (b : TEncl) (lo hi : Int) : Bool := inB b.Lo lo b.Hi && decide (b.Hi ≤ hi)
theorem wiB_iff {b : TEncl} {lo hi : Int} : wiB b lo hi = true ↔ lo ≤ b.Lo ∧ b.Lo ≤ b.Hi ∧ b.Hi ≤ hi := by simp [wiB, inB]; omega
def letB (c : Int) : Bool := inB c 97 122
def tailB (c : Int) : Bool := letB c || inB c 48 57 || c == 45
def okL : Nat → List Int → Bool
  | _, [] => true
  | i, c :: r => (if i = 0 then letB c else tailB c) && okL (i + 1) r
def bsOf (s : ByteArray) : List Int := s.data.toList.map fun b => (b.toNat : Int)
def nameB (s : ByteArray) : Bool := !(bsOf s).isEmpty && decide (s.size ≤ 24) && okL 0 (bsOf s)
theorem bytesA_eq (s : ByteArray) : bytesA s = (bsOf s).map (AV.int .u8) := by simp [bytesA, bsOf]
theorem bsOf_len (s : ByteArray) : (bsOf s).length = s.size := by simp [bsOf]
theorem okL_at {l : List Int} {k : Nat} {c : Int} (h : l[k]? = some c) : okL k (l.drop k) = ((if k = 0 then letB c else tailB c) && okL (k + 1) (l.drop (k + 1))) := by
  obtain ⟨hk, rfl⟩ := List.getElem?_eq_some_iff.1 h
  rw [List.drop_eq_getElem_cons hk]; rfl
/-- The first place with an error. -/
def firstE (e : Nat → Int) : Nat → Nat → Int × Int
  | 0, _ => (0, 0)
  | k + 1, i => if e i ≠ 0 then ((i : Int), e i) else firstE e k (i + 1)
theorem firstE_at {e : Nat → Int} {n k : Nat} (h : k < n) : firstE e (n - k) k = if e k ≠ 0 then ((k : Int), e k) else firstE e (n - (k + 1)) (k + 1) := by
  have : n - k = (n - (k + 1)) + 1 := by omega
  rw [this]; rfl
theorem firstE_ok {e : Nat → Int} : ∀ {k i : Nat}, (firstE e k i).2 = 0 → ∀ j, i ≤ j → j < i + k → e j = 0 := by
  intro k
  induction k with
  | zero => intro i _ j h1 h2; omega
  | succ k ih =>
    intro i h j h1 h2
    simp only [firstE] at h
    split at h
    · rename_i hne; exact absurd h hne
    · rename_i hne
      by_cases hj : j = i
      · subst hj; exact Decidable.byContradiction hne
      · exact ih h j (by omega) (by omega)
def twinB (x y : ByteArray) : Bool := x.toList == y.toList
def errAt {α : Type} (nm : α → ByteArray) (rest : Nat → α → Int) (l : List α) (i : Nat) : Int :=
  match l[i]? with
  | none => 0
  | some x => if !nameB (nm x) then 6 else if (l.take i).any (fun y => twinB (nm y) (nm x)) then 5 else rest i x
theorem errAt_some {α : Type} {nm : α → ByteArray} {rest : Nat → α → Int} {l : List α} {i : Nat} {x : α} (h : l[i]? = some x) :
    errAt nm rest l i = if !nameB (nm x) then 6 else if (l.take i).any (fun y => twinB (nm y) (nm x)) then 5 else rest i x := by unfold errAt; rw [h]
def cableS (_ : Nat) (x : TFeCable) : Int := if wiB x.Core 1 1000000 && wiB x.Earth 1 1000000 && inB x.Rated 1 100000000 then 0 else 7
def wildP (p : TFePoint) : Bool := !(inB p.Current 1 100000000 && wiB p.Melt 1 100000000)
def stepB (a b : TFePoint) : Bool := decide (b.Current ≤ a.Current) || decide (b.Melt.Lo > a.Melt.Lo) || decide (b.Melt.Hi > a.Melt.Hi)
def stepsS : List TFePoint → Int
  | [] => 0
  | [_] => 0
  | a :: b :: r => if stepB a b then 2 else stepsS (b :: r)
def curveS (_ : Nat) (x : TFeFuse) : Int := if !inB x.Points.length 1 8 then 3 else if !inB x.Rated 1 100000000 || x.Points.any wildP then 7 else stepsS x.Points
def wildE (b : TEncl) : Bool := !wiB b 0 1000000
def zE (b : TEncl) : Bool := b.Lo == 0 && b.Hi == 0
def blankB (x : TFeNode) : Bool := x.Parent == -1 && (x.Cable == -1 && (x.Length == 0 && (x.Fuse == -1 && (zE x.Loads0 && (zE x.Loads1 && zE x.Loads2)))))
def nodeS (nc nf : Nat) (i : Nat) (x : TFeNode) : Int :=
  if i = 0 then (if blankB x then 0 else 2)
  else if !(inB x.Parent 0 ((i : Int) - 1) && inB x.Cable 0 ((nc : Int) - 1) && inB x.Fuse (-1) ((nf : Int) - 1)) then 4
  else if !inB x.Length 1 5000 || [x.Loads0, x.Loads1, x.Loads2].any wildE then 7 else 0
def checkF (f : TFeFeeder) : Int × Int × Int :=
  if 10 < f.Cables.length ∨ 10 < f.Fuses.length ∨ 40 < f.Nodes.length then (0, 0, 3)
  else if f.Nodes.length = 0 then (0, 0, 4)
  else if !(wiB f.Volts 1 1000000 && wiB f.Source 1 1000000000 && inB f.Drop 0 1000000 && inB f.Limit 1 100000000) then (0, 0, 7)
  else
    let a := firstE (errAt TFeCable.Name cableS f.Cables) f.Cables.length 0
    let b := firstE (errAt TFeFuse.Name curveS f.Fuses) f.Fuses.length 0
    let c := firstE (errAt TFeNode.Name (nodeS f.Cables.length f.Fuses.length) f.Nodes) f.Nodes.length 0
    if a.2 ≠ 0 then (1, a.1, a.2) else if b.2 ≠ 0 then (2, b.1, b.2) else if c.2 ≠ 0 then (3, c.1, c.2) else (0, 0, 0)
/-- An element of a list of structures, where the code looks at it. -/
theorem map_get {α : Type} {f : α → AV} {l : List α} {n : Int} (h0 : 0 ≤ n) (h : n < l.length) : ∃ x, l[n.toNat]? = some x ∧ (l.map f)[n.toNat]? = some (f x) := by
  have hn : n.toNat < l.length := by omega
  exact ⟨l[n.toNat], List.getElem?_eq_getElem hn, by rw [List.getElem?_map, List.getElem?_eq_getElem hn]; rfl⟩
theorem map_getN {α : Type} {f : α → AV} {l : List α} {k : Nat} (h : k < l.length) : ∃ x, l[k]? = some x ∧ (l.map f)[(k : Int).toNat]? = some (f x) :=
  map_get (n := (k : Int)) (by omega) (by omega)
theorem i64 {n : Int} (h : -9223372036854775808 ≤ n ∧ n ≤ 9223372036854775807) : IntKind.i64.wrap n = n := IntWalk.i64_in n (by omega)
theorem wrapN {k : Nat} (h : k < 9223372036854775807) : IntKind.i64.wrap ((k : Int) + 1) = ((k + 1 : Nat) : Int) := by rw [i64 (by omega)]; rfl
def idxP {α : Type} (p : α → Bool) : Nat → List α → Int
  | _, [] => -1
  | i, x :: r => if p x then i else idxP p (i + 1) r
theorem idxP_ge {α : Type} (p : α → Bool) : ∀ (l : List α) (i : Nat), decide (idxP p i l ≥ 0) = l.any p := by
  intro l
  induction l with
  | nil => intro i; rfl
  | cons x r ih =>
    intro i
    simp only [idxP, List.any_cons]
    by_cases h : p x = true
    · simp [h]
    · simp only [h, if_false, Bool.false_or]; rw [← ih (i + 1)]; simp
theorem idxP_at {α : Type} {p : α → Bool} {l : List α} {k : Nat} {x : α} (h : l[k]? = some x) : idxP p k (l.drop k) = if p x then (k : Int) else idxP p (k + 1) (l.drop (k + 1)) := by
  obtain ⟨hk, rfl⟩ := List.getElem?_eq_some_iff.1 h
  rw [List.drop_eq_getElem_cons hk]; rfl
end Go.Proofs.Ytbdbnpnichkcjaa

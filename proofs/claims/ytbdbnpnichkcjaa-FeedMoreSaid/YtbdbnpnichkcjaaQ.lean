/- The plain functions of chapter 6: names, checks. Contracts: small functions, names. Contracts: checks of lists, the program's (printed by mkb.py). The plain functions of chapter 6: trees, currents, fuses, faults. -/
import Derived.Test.YtbdbnpnichkcjaaT
namespace Go.Proofs.Ytbdbnpnichkcjaa
open Go.RowKit
abbrev Sp := SpecOf Try.prog
abbrev Sqf := SeqOf Try.prog
def inB (n lo hi : Int) : Bool := decide (lo ≤ n) && decide (n ≤ hi)
theorem inB_iff {n lo hi : Int} : inB n lo hi = true ↔ lo ≤ n ∧ n ≤ hi := by simp [inB]
def wiB (b : TEncl) (lo hi : Int) : Bool := inB b.Lo lo b.Hi && decide (b.Hi ≤ hi)
theorem wiB_iff {b : TEncl} {lo hi : Int} : wiB b lo hi = true ↔ lo ≤ b.Lo ∧ b.Lo ≤ b.Hi ∧ b.Hi ≤ hi := by simp [wiB, inB]; omega
def letB (c : Int) : Bool := inB c 97 122
def tailB (c : Int) : Bool := letB c || inB c 48 57 || c == 45
def okL : Nat → List Int → Bool
  | _, [] => true
  | i, c :: r => (if i = 0 then letB c else tailB c) && okL (i + 1) r
def bsOf (s : ByteArray) : List Int := s.data.toList.map fun b => (b.toNat : Int)
def nameB (s : ByteArray) : Bool := !(bsOf s).isEmpty && decide (s.size ≤ 24) && okL 0 (bsOf s)
theorem bytesA_eq (s : ByteArray) : bytesA s = (bsOf s).map (AV.int .u8) := by simp [bytesA, bsOf]
theorem bsOf_len (s : ByteArray) : (bsOf s).length = s.size := by simp [bsOf]
theorem okL_at {l : List Int} {k : Nat} {c : Int} (h : l[k]? = some c) : okL k (l.drop k) = ((if k = 0 then letB c else tailB c) && okL (k + 1) (l.drop (k + 1))) := by
  obtain ⟨hk, rfl⟩ := List.getElem?_eq_some_iff.1 h
  rw [List.drop_eq_getElem_cons hk]; rfl
/-- The first place with an error. -/
def firstE (e : Nat → Int) : Nat → Nat → Int × Int
  | 0, _ => (0, 0)
  | k + 1, i => if e i ≠ 0 then ((i : Int), e i) else firstE e k (i + 1)
theorem firstE_at {e : Nat → Int} {n k : Nat} (h : k < n) : firstE e (n - k) k = if e k ≠ 0 then ((k : Int), e k) else firstE e (n - (k + 1)) (k + 1) := by
  have : n - k = (n - (k + 1)) + 1 := by omega
  rw [this]; rfl
theorem firstE_ok {e : Nat → Int} : ∀ {k i : Nat}, (firstE e k i).2 = 0 → ∀ j, i ≤ j → j < i + k → e j = 0 := by
  intro k
  induction k with
  | zero => intro i _ j h1 h2; omega
  | succ k ih =>
    intro i h j h1 h2
    simp only [firstE] at h
    split at h
    · rename_i hne; exact absurd h hne
    · rename_i hne
      by_cases hj : j = i
      · subst hj; exact Decidable.byContradiction hne
      · exact ih h j (by omega) (by omega)
def twinB (x y : ByteArray) : Bool := x.toList == y.toList
def errAt {α : Type} (nm : α → ByteArray) (rest : Nat → α → Int) (l : List α) (i : Nat) : Int :=
  match l[i]? with
  | none => 0
  | some x => if !nameB (nm x) then 6 else if (l.take i).any (fun y => twinB (nm y) (nm x)) then 5 else rest i x
theorem errAt_some {α : Type} {nm : α → ByteArray} {rest : Nat → α → Int} {l : List α} {i : Nat} {x : α} (h : l[i]? = some x) :
    errAt nm rest l i = if !nameB (nm x) then 6 else if (l.take i).any (fun y => twinB (nm y) (nm x)) then 5 else rest i x := by unfold errAt; rw [h]
def cableS (_ : Nat) (x : TFeCable) : Int := if wiB x.Core 1 1000000 && wiB x.Earth 1 1000000 && inB x.Rated 1 100000000 then 0 else 7
def wildP (p : TFePoint) : Bool := !(inB p.Current 1 100000000 && wiB p.Melt 1 100000000)
def stepB (a b : TFePoint) : Bool := decide (b.Current ≤ a.Current) || decide (b.Melt.Lo > a.Melt.Lo) || decide (b.Melt.Hi > a.Melt.Hi)
def stepsS : List TFePoint → Int
  | [] => 0
  | [_] => 0
  | a :: b :: r => if stepB a b then 2 else stepsS (b :: r)
def curveS (_ : Nat) (x : TFeFuse) : Int := if !inB x.Points.length 1 8 then 3 else if !inB x.Rated 1 100000000 || x.Points.any wildP then 7 else stepsS x.Points
def wildE (b : TEncl) : Bool := !wiB b 0 1000000
def zE (b : TEncl) : Bool := b.Lo == 0 && b.Hi == 0
def blankB (x : TFeNode) : Bool := x.Parent == -1 && (x.Cable == -1 && (x.Length == 0 && (x.Fuse == -1 && (zE x.Loads0 && (zE x.Loads1 && zE x.Loads2)))))
def nodeS (nc nf : Nat) (i : Nat) (x : TFeNode) : Int :=
  if i = 0 then (if blankB x then 0 else 2)
  else if !(inB x.Parent 0 ((i : Int) - 1) && inB x.Cable 0 ((nc : Int) - 1) && inB x.Fuse (-1) ((nf : Int) - 1)) then 4
  else if !inB x.Length 1 5000 || [x.Loads0, x.Loads1, x.Loads2].any wildE then 7 else 0
def checkF (f : TFeFeeder) : Int × Int × Int :=
  if 10 < f.Cables.length ∨ 10 < f.Fuses.length ∨ 40 < f.Nodes.length then (0, 0, 3)
  else if f.Nodes.length = 0 then (0, 0, 4)
  else if !(wiB f.Volts 1 1000000 && wiB f.Source 1 1000000000 && inB f.Drop 0 1000000 && inB f.Limit 1 100000000) then (0, 0, 7)
  else
    let a := firstE (errAt TFeCable.Name cableS f.Cables) f.Cables.length 0
    let b := firstE (errAt TFeFuse.Name curveS f.Fuses) f.Fuses.length 0
    let c := firstE (errAt TFeNode.Name (nodeS f.Cables.length f.Fuses.length) f.Nodes) f.Nodes.length 0
    if a.2 ≠ 0 then (1, a.1, a.2) else if b.2 ≠ 0 then (2, b.1, b.2) else if c.2 ≠ 0 then (3, c.1, c.2) else (0, 0, 0)
/-- An element of a list of structures, where the code looks at it. -/
theorem map_get {α : Type} {f : α → AV} {l : List α} {n : Int} (h0 : 0 ≤ n) (h : n < l.length) : ∃ x, l[n.toNat]? = some x ∧ (l.map f)[n.toNat]? = some (f x) := by
  have hn : n.toNat < l.length := by omega
  exact ⟨l[n.toNat], List.getElem?_eq_getElem hn, by rw [List.getElem?_map, List.getElem?_eq_getElem hn]; rfl⟩
theorem map_getN {α : Type} {f : α → AV} {l : List α} {k : Nat} (h : k < l.length) : ∃ x, l[k]? = some x ∧ (l.map f)[(k : Int).toNat]? = some (f x) :=
  map_get (n := (k : Int)) (by omega) (by omega)
theorem i64 {n : Int} (h : -9223372036854775808 ≤ n ∧ n ≤ 9223372036854775807) : IntKind.i64.wrap n = n := IntWalk.i64_in n (by omega)
theorem wrapN {k : Nat} (h : k < 9223372036854775807) : IntKind.i64.wrap ((k : Int) + 1) = ((k + 1 : Nat) : Int) := by rw [i64 (by omega)]; rfl
def idxP {α : Type} (p : α → Bool) : Nat → List α → Int
  | _, [] => -1
  | i, x :: r => if p x then i else idxP p (i + 1) r
theorem idxP_ge {α : Type} (p : α → Bool) : ∀ (l : List α) (i : Nat), decide (idxP p i l ≥ 0) = l.any p := by
  intro l
  induction l with
  | nil => intro i; rfl
  | cons x r ih =>
    intro i
    simp only [idxP, List.any_cons]
    by_cases h : p x = true
    · simp [h]
    · simp only [h, if_false, Bool.false_or]; rw [← ih (i + 1)]; simp
theorem idxP_at {α : Type} {p : α → Bool} {l : List α} {k : Nat} {x : α} (h : l[k]? = some x) : idxP p k (l.drop k) = if p x then (k : Int) else idxP p (k + 1) (l.drop (k + 1)) := by
  obtain ⟨hk, rfl⟩ := List.getElem?_eq_some_iff.1 h
  rw [List.drop_eq_getElem_cons hk]; rfl
end Go.Proofs.Ytbdbnpnichkcjaa
namespace Go.Proofs.Ytbdbnpnichkcjaa
open Go.RowKit
def R43 (n : Int) (low : Int) (high : Int) (_S : SpecF) (_Fr : FuncId → List AV → Nat → List AV → Prop) (_Sq : FuncId → List AV → List (List AV) → List (List AV) → Prop) (Q : AV → List (List AV) → Prop) : Prop :=
  (decide (low ≤ n) = true → Q (AV.bool (decide (n ≤ high))) []) ∧ (decide (low ≤ n) = false → Q (AV.bool false) [])
theorem r43 (n : Int) (low : Int) (high : Int) (S : SpecF) (Fr : FuncId → List AV → Nat → List AV → Prop) (Sq : FuncId → List AV → List (List AV) → List (List AV) → Prop) (Q : AV → List (List AV) → Prop) : awpF Try.prog (mkS Try.prog S Fr Sq ⟨[], [], [], [], []⟩ 0) 0 ⟨[0, 1, 2, 6], [], [], []⟩ Try.f43 [.int .i64 n, .int .i64 low, .int .i64 high] [] Q = R43 n low high S Fr Sq Q := by kernel_rfl
theorem s43 (n : Int) (low : Int) (high : Int) (v : AV) (O : List (List AV)) (h : R43 n low high (SpecOf Try.prog) (FreshOf Try.prog) (SeqOf Try.prog) (fun r O' => r = v ∧ O' = O)) : SpecOf Try.prog 43 [.int .i64 n, .int .i64 low, .int .i64 high] [] v O :=
  spec_by (boxes := []) mixed (by exact trivial) Try.func43 Try.call43 rfl rfl rfl (Nat.le_of_ble_eq_true rfl) (r43 n low high (SpecOf Try.prog) (FreshOf Try.prog) (SeqOf Try.prog) _) h
theorem c43 (n lo hi : Int) : Sp 43 [.int .i64 n, .int .i64 lo, .int .i64 hi] [] (.bool (inB n lo hi)) [] :=
  s43 n lo hi _ _ ⟨fun h => by simp [inB, h], fun h => by simp [inB, h]⟩
def R55 (n : Int) (low : Int) (high : Int) (_S : SpecF) (_Fr : FuncId → List AV → Nat → List AV → Prop) (_Sq : FuncId → List AV → List (List AV) → List (List AV) → Prop) (Q : AV → List (List AV) → Prop) : Prop :=
  (decide (n ≥ low) = true → Q (AV.bool (decide (n ≤ high))) []) ∧ (decide (n ≥ low) = false → Q (AV.bool false) [])
theorem r55 (n : Int) (low : Int) (high : Int) (S : SpecF) (Fr : FuncId → List AV → Nat → List AV → Prop) (Sq : FuncId → List AV → List (List AV) → List (List AV) → Prop) (Q : AV → List (List AV) → Prop) : awpF Try.prog (mkS Try.prog S Fr Sq ⟨[], [], [], [], []⟩ 0) 0 ⟨[0, 1, 2, 6], [], [], []⟩ Try.f55 [.int .i64 n, .int .i64 low, .int .i64 high] [] Q = R55 n low high S Fr Sq Q := by kernel_rfl
theorem s55 (n : Int) (low : Int) (high : Int) (v : AV) (O : List (List AV)) (h : R55 n low high (SpecOf Try.prog) (FreshOf Try.prog) (SeqOf Try.prog) (fun r O' => r = v ∧ O' = O)) : SpecOf Try.prog 55 [.int .i64 n, .int .i64 low, .int .i64 high] [] v O :=
  spec_by (boxes := []) mixed (by exact trivial) Try.func55 Try.call55 rfl rfl rfl (Nat.le_of_ble_eq_true rfl) (r55 n low high (SpecOf Try.prog) (FreshOf Try.prog) (SeqOf Try.prog) _) h
theorem c55 (n lo hi : Int) : Sp 55 [.int .i64 n, .int .i64 lo, .int .i64 hi] [] (.bool (inB n lo hi)) [] :=
  s55 n lo hi _ _ ⟨fun h => by simp_all [inB], fun h => ⟨by congr 1; rw [eq_comm, Bool.eq_false_iff, Ne, inB_iff]; simp at h; omega, rfl⟩⟩
def R42 (b : TEncl) (low : Int) (high : Int) (_S : SpecF) (_Fr : FuncId → List AV → Nat → List AV → Prop) (_Sq : FuncId → List AV → List (List AV) → List (List AV) → Prop) (Q : AV → List (List AV) → Prop) : Prop :=
  (decide (low ≤ b.Lo) = true → (decide (b.Lo ≤ b.Hi) = true → Q (AV.bool (decide (b.Hi ≤ high))) []) ∧ (decide (b.Lo ≤ b.Hi) = false → Q (AV.bool false) [])) ∧ (decide (low ≤ b.Lo) = false → Q (AV.bool false) [])
theorem r42 (b : TEncl) (low : Int) (high : Int) (S : SpecF) (Fr : FuncId → List AV → Nat → List AV → Prop) (Sq : FuncId → List AV → List (List AV) → List (List AV) → Prop) (Q : AV → List (List AV) → Prop) : awpF Try.prog (mkS Try.prog S Fr Sq ⟨[], [], [], [], []⟩ 0) 0 ⟨[0, 1, 2, 3, 6], [], [], []⟩ Try.f42 [b.av, .int .i64 low, .int .i64 high] [] Q = R42 b low high S Fr Sq Q := by kernel_rfl
theorem s42 (b : TEncl) (low : Int) (high : Int) (v : AV) (O : List (List AV)) (h : R42 b low high (SpecOf Try.prog) (FreshOf Try.prog) (SeqOf Try.prog) (fun r O' => r = v ∧ O' = O)) : SpecOf Try.prog 42 [b.av, .int .i64 low, .int .i64 high] [] v O :=
  spec_by (boxes := []) mixed (by exact trivial) Try.func42 Try.call42 rfl rfl rfl (Nat.le_of_ble_eq_true rfl) (r42 b low high (SpecOf Try.prog) (FreshOf Try.prog) (SeqOf Try.prog) _) h
theorem c42 (b : TEncl) (lo hi : Int) : Sp 42 [b.av, .int .i64 lo, .int .i64 hi] [] (.bool (wiB b lo hi)) [] :=
  s42 b lo hi _ _ (by
  refine ⟨fun h => ⟨fun h2 => ⟨?_, rfl⟩, fun h2 => ⟨?_, rfl⟩⟩, fun h => ⟨?_, rfl⟩⟩
  · simp only [wiB, inB, h, h2, Bool.true_and]
  · simp only [wiB, inB, h, h2, Bool.true_and, Bool.false_and]
  · simp only [wiB, inB, h, Bool.false_and])
def R54 (b : TEncl) (low : Int) (high : Int) (S : SpecF) (_Fr : FuncId → List AV → Nat → List AV → Prop) (_Sq : FuncId → List AV → List (List AV) → List (List AV) → Prop) (Q : AV → List (List AV) → Prop) : Prop :=
  (decide (b.Lo ≤ b.Hi) = true → ∃ b2, S (55 : Nat) [AV.int .i64 b.Lo, AV.int .i64 low, AV.int .i64 high] [] (AV.bool b2) [] ∧ (b2 = true → ∃ b6, S (55 : Nat) [AV.int .i64 b.Hi, AV.int .i64 low, AV.int .i64 high] [] (AV.bool b6) [] ∧ Q (AV.bool b6) []) ∧ (b2 = false → Q (AV.bool false) [])) ∧ (decide (b.Lo ≤ b.Hi) = false → Q (AV.bool false) [])
theorem r54 (b : TEncl) (low : Int) (high : Int) (S : SpecF) (Fr : FuncId → List AV → Nat → List AV → Prop) (Sq : FuncId → List AV → List (List AV) → List (List AV) → Prop) (Q : AV → List (List AV) → Prop) : awpF Try.prog (mkS Try.prog S Fr Sq ⟨[], [], [], [], []⟩ 0) 0 ⟨[0, 1, 2, 3, 6], [], [], []⟩ Try.f54 [b.av, .int .i64 low, .int .i64 high] [] Q = R54 b low high S Fr Sq Q := by kernel_rfl
theorem s54 (b : TEncl) (low : Int) (high : Int) (v : AV) (O : List (List AV)) (h : R54 b low high (SpecOf Try.prog) (FreshOf Try.prog) (SeqOf Try.prog) (fun r O' => r = v ∧ O' = O)) : SpecOf Try.prog 54 [b.av, .int .i64 low, .int .i64 high] [] v O :=
  spec_by (boxes := []) mixed (by exact trivial) Try.func54 Try.call54 rfl rfl rfl (Nat.le_of_ble_eq_true rfl) (r54 b low high (SpecOf Try.prog) (FreshOf Try.prog) (SeqOf Try.prog) _) h
theorem c54 (b : TEncl) (lo hi : Int) : Sp 54 [b.av, .int .i64 lo, .int .i64 hi] [] (.bool (wiB b lo hi)) [] := s54 b lo hi _ _ (by
  refine ⟨fun h => ⟨_, c55 _ _ _, fun h2 => ⟨_, c55 _ _ _, ?_, rfl⟩, fun h2 => ⟨?_, rfl⟩⟩, fun h => ⟨?_, rfl⟩⟩
  · congr 1; rw [Bool.eq_iff_iff, inB_iff, wiB_iff]; rw [inB_iff] at h2; simp at h; omega
  · congr 1; rw [eq_comm, Bool.eq_false_iff, Ne, wiB_iff]; rw [Bool.eq_false_iff, Ne, inB_iff] at h2; simp at h; omega
  · congr 1; rw [eq_comm, Bool.eq_false_iff, Ne, wiB_iff]; simp at h; omega)
def R93 (s : ByteArray) (_S : SpecF) (_Fr : FuncId → List AV → Nat → List AV → Prop) (_Sq : FuncId → List AV → List (List AV) → List (List AV) → Prop) (Q : AV → List (List AV) → Prop) : Prop :=
  ∃ (I0 : Nat → List AV → Prop), (∃ m2, I0 m2 [AV.int .i64 (0 : Int)]) ∧ ∀ (m2 : Nat) (n3 : Int), I0 m2 [AV.int .i64 n3] → (decide (n3 < (↑(bytesA s).length : Int)) = true → ∃ n7, ((0 : Int) ≤ n3 ∧ (1 : Nat) = (1 : Nat) ∧ (bytesA s)[n3.toNat]? = some (AV.int IntKind.u8 n7)) ∧ (decide (n7 ≥ (97 : Int)) = true → ((!decide (n7 ≤ (122 : Int))) = true → ((n3 == (0 : Int)) = true → Q (AV.bool false) []) ∧ ((n3 == (0 : Int)) = false → (decide (n7 ≥ (48 : Int)) = true → ((!decide (n7 ≤ (57 : Int))) = true → ((n7 != (45 : Int)) = true → Q (AV.bool false) []) ∧ ((n7 != (45 : Int)) = false → ∃ k21, k21 < m2 ∧ I0 k21 [AV.int .i64 (IntKind.i64.wrap (n3 + (1 : Int)))])) ∧ ((!decide (n7 ≤ (57 : Int))) = false → ∃ k19, k19 < m2 ∧ I0 k19 [AV.int .i64 (IntKind.i64.wrap (n3 + (1 : Int)))])) ∧ (decide (n7 ≥ (48 : Int)) = false → ((n7 != (45 : Int)) = true → Q (AV.bool false) []) ∧ ((n7 != (45 : Int)) = false → ∃ k19, k19 < m2 ∧ I0 k19 [AV.int .i64 (IntKind.i64.wrap (n3 + (1 : Int)))])))) ∧ ((!decide (n7 ≤ (122 : Int))) = false → ∃ k13, k13 < m2 ∧ I0 k13 [AV.int .i64 (IntKind.i64.wrap (n3 + (1 : Int)))])) ∧ (decide (n7 ≥ (97 : Int)) = false → ((n3 == (0 : Int)) = true → Q (AV.bool false) []) ∧ ((n3 == (0 : Int)) = false → (decide (n7 ≥ (48 : Int)) = true → ((!decide (n7 ≤ (57 : Int))) = true → ((n7 != (45 : Int)) = true → Q (AV.bool false) []) ∧ ((n7 != (45 : Int)) = false → ∃ k19, k19 < m2 ∧ I0 k19 [AV.int .i64 (IntKind.i64.wrap (n3 + (1 : Int)))])) ∧ ((!decide (n7 ≤ (57 : Int))) = false → ∃ k17, k17 < m2 ∧ I0 k17 [AV.int .i64 (IntKind.i64.wrap (n3 + (1 : Int)))])) ∧ (decide (n7 ≥ (48 : Int)) = false → ((n7 != (45 : Int)) = true → Q (AV.bool false) []) ∧ ((n7 != (45 : Int)) = false → ∃ k17, k17 < m2 ∧ I0 k17 [AV.int .i64 (IntKind.i64.wrap (n3 + (1 : Int)))]))))) ∧ (decide (n3 < (↑(bytesA s).length : Int)) = false → ((!s.toList == (ByteArray.mk #[]).toList) = true → Q (AV.bool (decide ((↑s.size : Int) ≤ (24 : Int)))) []) ∧ ((!s.toList == (ByteArray.mk #[]).toList) = false → Q (AV.bool false) []))
theorem r93 (s : ByteArray) (S : SpecF) (Fr : FuncId → List AV → Nat → List AV → Prop) (Sq : FuncId → List AV → List (List AV) → List (List AV) → Prop) (Q : AV → List (List AV) → Prop) : awpF Try.prog (mkS Try.prog S Fr Sq ⟨[], [], [], [], []⟩ 0) 0 ⟨[0, 2, 3, 4, 5, 7, 8, 9, 10, 38], [⟨2, [(9, .int .i64 0)], [], [], [], []⟩], [], []⟩ Try.f93 [.str s] [] Q = R93 s S Fr Sq Q := by kernel_rfl
theorem s93 (s : ByteArray) (v : AV) (O : List (List AV)) (h : R93 s (SpecOf Try.prog) (FreshOf Try.prog) (SeqOf Try.prog) (fun r O' => r = v ∧ O' = O)) : SpecOf Try.prog 93 [.str s] [] v O :=
  spec_by (boxes := []) mixed (by exact trivial) Try.func93 Try.call93 rfl rfl rfl (Nat.le_of_ble_eq_true rfl) (r93 s (SpecOf Try.prog) (FreshOf Try.prog) (SeqOf Try.prog) _) h
theorem c93 (s : ByteArray) (hl : s.size ≤ 9223372036854775807) : Sp 93 [.str s] [] (.bool (nameB s)) [] := s93 s _ _ (by
  unfold R93
  simp only [bytesA_eq, List.length_map, bsOf_len]
  refine ⟨fun m vs => ∃ n : Nat, vs = [.int .i64 n] ∧ n ≤ s.size ∧ m = s.size - n ∧ okL n ((bsOf s).drop n) = okL 0 (bsOf s), ⟨_, 0, rfl, by omega, rfl, rfl⟩, ?_⟩
  rintro m n ⟨k, hk, hle, rfl, hn⟩
  cases hk
  refine ⟨fun h3 => ?_, fun h3 => ?_⟩
  · have h3 : k < s.size := by simpa using h3
    obtain ⟨c, hc, hc'⟩ := map_getN (f := AV.int .u8) (l := bsOf s) (k := k) (by rw [bsOf_len]; exact h3)
    have hat := okL_at hc
    refine ⟨c, ⟨by omega, trivial, hc'⟩, ?_⟩
    rw [wrapN (by omega)]
    have bad : (if k = 0 then letB c else tailB c) = false → nameB s = false := fun hb => by
      have : okL 0 (bsOf s) = false := by rw [← hn, hat, hb]; rfl
      simp only [nameB, this, Bool.and_false]
    have good : (if k = 0 then letB c else tailB c) = true → ∃ m', m' < s.size - k ∧ ∃ n : Nat, [AV.int .i64 ((k + 1 : Nat) : Int)] = [.int .i64 n] ∧ n ≤ s.size ∧ m' = s.size - n ∧ okL n ((bsOf s).drop n) = okL 0 (bsOf s) := fun hg =>
      ⟨_, (by omega : s.size - (k + 1) < s.size - k), k + 1, rfl, by omega, rfl, by rw [← hn, hat, hg]; rfl⟩
    have hk0 : ((k : Int) == 0) = decide (k = 0) := by rw [Bool.eq_iff_iff]; simp
    rw [hk0]
    generalize (∃ m', m' < s.size - k ∧ ∃ n : Nat, [AV.int .i64 ((k + 1 : Nat) : Int)] = [.int .i64 n] ∧ n ≤ s.size ∧ m' = s.size - n ∧ okL n ((bsOf s).drop n) = okL 0 (bsOf s)) = G at good ⊢
    simp only [tailB, letB, inB] at good bad
    simp only [decide_eq_true_eq, decide_eq_false_iff_not, Bool.not_eq_true', Bool.not_eq_false', ge_iff_le, bne_iff_ne, ne_eq, bne_eq_false_iff_eq]
    by_cases hk : k = 0
    · simp only [hk, if_true] at good bad ⊢
      by_cases h1 : 97 ≤ c <;> by_cases h2 : c ≤ 122 <;> simp_all <;> omega
    · simp only [hk, if_false] at good bad ⊢
      by_cases h1 : 97 ≤ c <;> by_cases h2 : c ≤ 122 <;> by_cases h3 : 48 ≤ c <;> by_cases h4 : c ≤ 57 <;> by_cases h5 : c = 45 <;> simp_all <;> omega
  · have hk : k = s.size := by simp at h3; omega
    have hd : (bsOf s).drop k = [] := by rw [hk, ← bsOf_len, List.drop_length]
    rw [hd] at hn
    have hok : okL 0 (bsOf s) = true := by rw [← hn]; rfl
    have he : (s.toList == (ByteArray.mk #[]).toList) = (bsOf s).isEmpty := by
      rw [Bool.eq_iff_iff, beq_iff_eq, List.isEmpty_iff]
      simp only [ByteArray.toList_eq, bsOf, List.map_eq_nil_iff]
    refine ⟨fun h => ⟨?_, trivial⟩, fun h => ⟨?_, trivial⟩⟩
    · rw [he] at h; simp only [nameB, hok, h, Bool.true_and, Bool.and_true]; congr 1; rw [Bool.eq_iff_iff]; simp; omega
    · rw [he] at h; simp only [nameB, h, Bool.false_and])
theorem map_at {s : ByteArray} {i : Nat} (h : i < s.size) : ∃ c : UInt8, s[i]? = some c ∧ (bsOf s)[i]? = some (c.toNat : Int) := by
  have h2 : i < s.data.size := h
  refine ⟨s.data[i], ?_, by simp only [bsOf, List.getElem?_map]; rw [List.getElem?_eq_getElem (by simpa using h2)]; simp⟩
  rw [getElem?_pos s i h]; rfl
theorem okL_all {l : List Int} : ∀ {k : Nat}, 0 < k → okL k l = l.all tailB := by
  induction l with
  | nil => intro k _; rfl
  | cons c r ih => intro k hk; simp only [okL, List.all_cons]; rw [if_neg (by omega), ih (by omega)]
theorem tail_iff {c : Int} : tailB c = true ↔ (97 ≤ c ∧ c ≤ 122) ∨ (48 ≤ c ∧ c ≤ 57) ∨ c = 45 := by simp [tailB, letB, inB]; omega
def R103 (s : ByteArray) (_S : SpecF) (_Fr : FuncId → List AV → Nat → List AV → Prop) (_Sq : FuncId → List AV → List (List AV) → List (List AV) → Prop) (Q : AV → List (List AV) → Prop) : Prop :=
  (decide ((↑s.size : Int) < (1 : Int)) = true → Q (AV.bool false) []) ∧ (decide ((↑s.size : Int) < (1 : Int)) = false → (decide ((↑s.size : Int) > (24 : Int)) = true → Q (AV.bool false) []) ∧ (decide ((↑s.size : Int) > (24 : Int)) = false → ∃ c4, ((0 : Int) ≤ (0 : Int) ∧ s[(0 : Nat)]? = some c4) ∧ (decide ((↑c4.toNat : Int) < (97 : Int)) = true → Q (AV.bool false) []) ∧ (decide ((↑c4.toNat : Int) < (97 : Int)) = false → ∃ c8, ((0 : Int) ≤ (0 : Int) ∧ s[(0 : Nat)]? = some c8) ∧ (decide ((↑c8.toNat : Int) > (122 : Int)) = true → Q (AV.bool false) []) ∧ (decide ((↑c8.toNat : Int) > (122 : Int)) = false → ∃ (I12 : Nat → List AV → Prop), (∃ m14, I12 m14 [AV.int .i64 (0 : Int)]) ∧ ∀ (m14 : Nat) (n15 : Int), I12 m14 [AV.int .i64 n15] → (decide (n15 < (↑s.size : Int)) = true → ∃ c19, ((0 : Int) ≤ n15 ∧ s[n15.toNat]? = some c19) ∧ (decide ((↑c19.toNat : Int) ≥ (97 : Int)) = true → ∃ c23, ((0 : Int) ≤ n15 ∧ s[n15.toNat]? = some c23) ∧ (decide ((↑c23.toNat : Int) ≤ (122 : Int)) = true → ∃ k27, k27 < m14 ∧ I12 k27 [AV.int .i64 (IntKind.i64.wrap (n15 + (1 : Int)))]) ∧ (decide ((↑c23.toNat : Int) ≤ (122 : Int)) = false → ∃ c27, ((0 : Int) ≤ n15 ∧ s[n15.toNat]? = some c27) ∧ (decide ((↑c27.toNat : Int) ≥ (48 : Int)) = true → ∃ c31, ((0 : Int) ≤ n15 ∧ s[n15.toNat]? = some c31) ∧ (decide ((↑c31.toNat : Int) ≤ (57 : Int)) = true → ∃ k35, k35 < m14 ∧ I12 k35 [AV.int .i64 (IntKind.i64.wrap (n15 + (1 : Int)))]) ∧ (decide ((↑c31.toNat : Int) ≤ (57 : Int)) = false → ∃ c35, ((0 : Int) ≤ n15 ∧ s[n15.toNat]? = some c35) ∧ ((!(↑c35.toNat : Int) == (45 : Int)) = true → Q (AV.bool false) []) ∧ ((!(↑c35.toNat : Int) == (45 : Int)) = false → ∃ k39, k39 < m14 ∧ I12 k39 [AV.int .i64 (IntKind.i64.wrap (n15 + (1 : Int)))]))) ∧ (decide ((↑c27.toNat : Int) ≥ (48 : Int)) = false → ∃ c31, ((0 : Int) ≤ n15 ∧ s[n15.toNat]? = some c31) ∧ ((!(↑c31.toNat : Int) == (45 : Int)) = true → Q (AV.bool false) []) ∧ ((!(↑c31.toNat : Int) == (45 : Int)) = false → ∃ k35, k35 < m14 ∧ I12 k35 [AV.int .i64 (IntKind.i64.wrap (n15 + (1 : Int)))])))) ∧ (decide ((↑c19.toNat : Int) ≥ (97 : Int)) = false → ∃ c23, ((0 : Int) ≤ n15 ∧ s[n15.toNat]? = some c23) ∧ (decide ((↑c23.toNat : Int) ≥ (48 : Int)) = true → ∃ c27, ((0 : Int) ≤ n15 ∧ s[n15.toNat]? = some c27) ∧ (decide ((↑c27.toNat : Int) ≤ (57 : Int)) = true → ∃ k31, k31 < m14 ∧ I12 k31 [AV.int .i64 (IntKind.i64.wrap (n15 + (1 : Int)))]) ∧ (decide ((↑c27.toNat : Int) ≤ (57 : Int)) = false → ∃ c31, ((0 : Int) ≤ n15 ∧ s[n15.toNat]? = some c31) ∧ ((!(↑c31.toNat : Int) == (45 : Int)) = true → Q (AV.bool false) []) ∧ ((!(↑c31.toNat : Int) == (45 : Int)) = false → ∃ k35, k35 < m14 ∧ I12 k35 [AV.int .i64 (IntKind.i64.wrap (n15 + (1 : Int)))]))) ∧ (decide ((↑c23.toNat : Int) ≥ (48 : Int)) = false → ∃ c27, ((0 : Int) ≤ n15 ∧ s[n15.toNat]? = some c27) ∧ ((!(↑c27.toNat : Int) == (45 : Int)) = true → Q (AV.bool false) []) ∧ ((!(↑c27.toNat : Int) == (45 : Int)) = false → ∃ k31, k31 < m14 ∧ I12 k31 [AV.int .i64 (IntKind.i64.wrap (n15 + (1 : Int)))])))) ∧ (decide (n15 < (↑s.size : Int)) = false → Q (AV.bool true) [])))))
theorem r103 (s : ByteArray) (S : SpecF) (Fr : FuncId → List AV → Nat → List AV → Prop) (Sq : FuncId → List AV → List (List AV) → List (List AV) → Prop) (Q : AV → List (List AV) → Prop) : awpF Try.prog (mkS Try.prog S Fr Sq ⟨[], [], [], [], []⟩ 0) 0 ⟨[0, 2, 3, 21, 25, 56], [⟨4, [(3, .int .i64 0)], [], [], [], []⟩], [], []⟩ Try.f103 [.str s] [] Q = R103 s S Fr Sq Q := by kernel_rfl
theorem s103 (s : ByteArray) (v : AV) (O : List (List AV)) (h : R103 s (SpecOf Try.prog) (FreshOf Try.prog) (SeqOf Try.prog) (fun r O' => r = v ∧ O' = O)) : SpecOf Try.prog 103 [.str s] [] v O :=
  spec_by (boxes := []) mixed (by exact trivial) Try.func103 Try.call103 rfl rfl rfl (Nat.le_of_ble_eq_true rfl) (r103 s (SpecOf Try.prog) (FreshOf Try.prog) (SeqOf Try.prog) _) h
theorem c103 (s : ByteArray) (hl : s.size ≤ 9223372036854775807) : Sp 103 [.str s] [] (.bool (nameB s)) [] := s103 s _ _ (by
  unfold R103
  have hlen := bsOf_len s
  refine ⟨fun h1 => ⟨?_, rfl⟩, fun h1 => ⟨fun h2 => ⟨?_, rfl⟩, fun h2 => ?_⟩⟩
  · have : bsOf s = [] := List.length_eq_zero_iff.1 (by simp at h1; omega)
    simp [nameB, this]
  · have : ¬ s.size ≤ 24 := by simp at h2; omega
    simp [nameB, this]
  have h1 : 0 < s.size := by simp at h1; omega
  have h2 : s.size ≤ 24 := by simp at h2; omega
  obtain ⟨c0, g1, g2⟩ := map_at h1
  obtain ⟨x, r, hxr⟩ : ∃ x r, bsOf s = x :: r := by
    cases hh : bsOf s with
    | nil => rw [hh] at hlen; simp at hlen; omega
    | cons x r => exact ⟨x, r, rfl⟩
  have hx : x = (c0.toNat : Int) := by rw [hxr] at g2; simpa using g2
  have hn : nameB s = (letB x && r.all tailB) := by
    simp only [nameB, hxr, List.isEmpty_cons, okL, if_true, h2, decide_true, Bool.not_false, Bool.true_and]
    rw [okL_all (by omega)]
  refine ⟨c0, ⟨by omega, g1⟩, fun h3 => ⟨?_, rfl⟩, fun h3 => ⟨c0, ⟨by omega, g1⟩, fun h4 => ⟨?_, rfl⟩, fun h4 => ?_⟩⟩
  · have : letB x = false := by rw [Bool.eq_false_iff, Ne, letB, inB_iff]; simp at h3; omega
    rw [hn, this]; rfl
  · have : letB x = false := by rw [Bool.eq_false_iff, Ne, letB, inB_iff]; simp at h4; omega
    rw [hn, this]; rfl
  have hlt : letB x = true := by rw [letB, inB_iff]; simp at h3 h4; omega
  have htl : tailB x = true := by simp [tailB, hlt]
  have hn : nameB s = (bsOf s).all tailB := by rw [hn, hxr, List.all_cons, hlt, htl]
  refine ⟨fun m vs => ∃ n : Nat, vs = [.int .i64 n] ∧ n ≤ s.size ∧ m = s.size - n ∧ ((bsOf s).drop n).all tailB = nameB s, ⟨_, 0, rfl, by omega, rfl, by rw [hn]; rfl⟩, ?_⟩
  rintro m n ⟨k, hk, hle, rfl, hm⟩
  cases hk
  refine ⟨fun h5 => ?_, fun h5 => ⟨?_, rfl⟩⟩
  · have h5 : k < s.size := by simpa using h5
    obtain ⟨c, k1, k2⟩ := map_at h5
    have hd : ((bsOf s).drop k).all tailB = (tailB c.toNat && ((bsOf s).drop (k + 1)).all tailB) := by
      obtain ⟨hk', hk2⟩ := List.getElem?_eq_some_iff.1 k2
      rw [List.drop_eq_getElem_cons hk', hk2, List.all_cons]
    rw [wrapN (by omega)]
    have bad : ¬ ((97 ≤ (c.toNat : Int) ∧ (c.toNat : Int) ≤ 122) ∨ (48 ≤ (c.toNat : Int) ∧ (c.toNat : Int) ≤ 57) ∨ (c.toNat : Int) = 45) → AV.bool false = AV.bool (nameB s) := fun hb => by
      have hb : tailB c.toNat = false := by rw [Bool.eq_false_iff, Ne, tail_iff]; exact hb
      rw [← hm, hd, hb]; rfl
    have good : ((97 ≤ (c.toNat : Int) ∧ (c.toNat : Int) ≤ 122) ∨ (48 ≤ (c.toNat : Int) ∧ (c.toNat : Int) ≤ 57) ∨ (c.toNat : Int) = 45) → ∃ m', m' < s.size - k ∧ ∃ n : Nat, [AV.int .i64 ((k + 1 : Nat) : Int)] = [.int .i64 n] ∧ n ≤ s.size ∧ m' = s.size - n ∧ ((bsOf s).drop n).all tailB = nameB s := fun hg =>
      ⟨_, (by omega : s.size - (k + 1) < s.size - k), k + 1, rfl, by omega, rfl, by rw [← hm, hd, tail_iff.2 hg]; rfl⟩
    have hc : ∀ F : UInt8 → Prop, F c → ∃ c, (0 ≤ (k : Int) ∧ s[(k : Int).toNat]? = some c) ∧ F c := fun F hF => ⟨c, ⟨by omega, k1⟩, hF⟩
    generalize (∃ m', m' < s.size - k ∧ ∃ n : Nat, [AV.int .i64 ((k + 1 : Nat) : Int)] = [.int .i64 n] ∧ n ≤ s.size ∧ m' = s.size - n ∧ ((bsOf s).drop n).all tailB = nameB s) = G at good ⊢
    refine hc _ ⟨fun e1 => hc _ ⟨fun e2 => ?_, fun e2 => hc _ ⟨fun e3 => hc _ ⟨fun e4 => ?_, fun e4 => hc _ ⟨fun e5 => ⟨?_, rfl⟩, fun e5 => ?_⟩⟩, fun e3 => hc _ ⟨fun e5 => ⟨?_, rfl⟩, fun e5 => ?_⟩⟩⟩, fun e1 => hc _ ⟨fun e3 => hc _ ⟨fun e4 => ?_, fun e4 => hc _ ⟨fun e5 => ⟨?_, rfl⟩, fun e5 => ?_⟩⟩, fun e3 => hc _ ⟨fun e5 => ⟨?_, rfl⟩, fun e5 => ?_⟩⟩⟩ <;>
      simp only [decide_eq_true_eq, decide_eq_false_iff_not, Bool.not_eq_true', Bool.not_eq_false', beq_eq_false_iff_ne, beq_iff_eq, ne_eq, ge_iff_le, gt_iff_lt] at * <;>
      first | exact good (by omega) | exact bad (by omega)
  · have hk : k = s.size := by simp at h5; omega
    rw [hk, ← hlen, List.drop_length] at hm; rw [← hm]; rfl)
end Go.Proofs.Ytbdbnpnichkcjaa
namespace Go.Proofs.Ytbdbnpnichkcjaa
open Go.RowKit
def R46 (_a0 : Int) (x : TFeCable) (S : SpecF) (_Fr : FuncId → List AV → Nat → List AV → Prop) (_Sq : FuncId → List AV → List (List AV) → List (List AV) → Prop) (Q : AV → List (List AV) → Prop) : Prop :=
  ∃ b0, S (42 : Nat) [x.Core.av, AV.int .i64 (1 : Int), AV.int .i64 (1000000 : Int)] [] (AV.bool b0) [] ∧ ((!b0) = true → Q (AV.int .i64 (7 : Int)) []) ∧ ((!b0) = false → ∃ b4, S (42 : Nat) [x.Earth.av, AV.int .i64 (1 : Int), AV.int .i64 (1000000 : Int)] [] (AV.bool b4) [] ∧ ((!b4) = true → Q (AV.int .i64 (7 : Int)) []) ∧ ((!b4) = false → ∃ b8, S (43 : Nat) [AV.int .i64 x.Rated, AV.int .i64 (1 : Int), AV.int .i64 (100000000 : Int)] [] (AV.bool b8) [] ∧ ((!b8) = true → Q (AV.int .i64 (7 : Int)) []) ∧ ((!b8) = false → Q (AV.int .i64 (0 : Int)) [])))
theorem r46 (a0 : Int) (x : TFeCable) (S : SpecF) (Fr : FuncId → List AV → Nat → List AV → Prop) (Sq : FuncId → List AV → List (List AV) → List (List AV) → Prop) (Q : AV → List (List AV) → Prop) : awpF Try.prog (mkS Try.prog S Fr Sq ⟨[], [], [], [], []⟩ 0) 0 ⟨[1, 3, 4, 20], [], [], []⟩ Try.f46 [.int .i64 a0, x.av] [] Q = R46 a0 x S Fr Sq Q := by kernel_rfl
theorem s46 (a0 : Int) (x : TFeCable) (v : AV) (O : List (List AV)) (h : R46 a0 x (SpecOf Try.prog) (FreshOf Try.prog) (SeqOf Try.prog) (fun r O' => r = v ∧ O' = O)) : SpecOf Try.prog 46 [.int .i64 a0, x.av] [] v O :=
  spec_by (boxes := []) mixed (by exact trivial) Try.func46 Try.call46 rfl rfl rfl (Nat.le_of_ble_eq_true rfl) (r46 a0 x (SpecOf Try.prog) (FreshOf Try.prog) (SeqOf Try.prog) _) h
theorem c46 (i : Nat) (x : TFeCable) : Sp 46 [.int .i64 i, x.av] [] (.int .i64 (cableS i x)) [] := s46 i x _ _ (by
  refine ⟨_, c42 _ _ _, fun h1 => ⟨?_, rfl⟩, fun h1 => ⟨_, c42 _ _ _, fun h2 => ⟨?_, rfl⟩, fun h2 => ⟨_, c43 _ _ _, fun h3 => ⟨?_, rfl⟩, fun h3 => ⟨?_, rfl⟩⟩⟩⟩ <;> simp_all [cableS])
def R97 (p : TFePoint) (S : SpecF) (_Fr : FuncId → List AV → Nat → List AV → Prop) (_Sq : FuncId → List AV → List (List AV) → List (List AV) → Prop) (Q : AV → List (List AV) → Prop) : Prop :=
  ∃ b0, S (43 : Nat) [AV.int .i64 p.Current, AV.int .i64 (1 : Int), AV.int .i64 (100000000 : Int)] [] (AV.bool b0) [] ∧ ((!b0) = true → Q (AV.bool true) []) ∧ ((!b0) = false → ∃ b4, S (42 : Nat) [p.Melt.av, AV.int .i64 (1 : Int), AV.int .i64 (100000000 : Int)] [] (AV.bool b4) [] ∧ Q (AV.bool !b4) [])
theorem r97 (p : TFePoint) (S : SpecF) (Fr : FuncId → List AV → Nat → List AV → Prop) (Sq : FuncId → List AV → List (List AV) → List (List AV) → Prop) (Q : AV → List (List AV) → Prop) : awpF Try.prog (mkS Try.prog S Fr Sq ⟨[], [], [], [], []⟩ 0) 0 ⟨[0, 1, 2], [], [], []⟩ Try.f97 [p.av] [] Q = R97 p S Fr Sq Q := by kernel_rfl
theorem s97 (p : TFePoint) (v : AV) (O : List (List AV)) (h : R97 p (SpecOf Try.prog) (FreshOf Try.prog) (SeqOf Try.prog) (fun r O' => r = v ∧ O' = O)) : SpecOf Try.prog 97 [p.av] [] v O :=
  spec_by (boxes := []) mixed (by exact trivial) Try.func97 Try.call97 rfl rfl rfl (Nat.le_of_ble_eq_true rfl) (r97 p (SpecOf Try.prog) (FreshOf Try.prog) (SeqOf Try.prog) _) h
theorem c97 (p : TFePoint) : Sp 97 [p.av] [] (.bool (wildP p)) [] := s97 p _ _ (by
  refine ⟨_, c43 _ _ _, fun h1 => ⟨?_, rfl⟩, fun h1 => ⟨_, c42 _ _ _, ?_, rfl⟩⟩ <;> simp_all [wildP])
def R101 (b : TEncl) (S : SpecF) (_Fr : FuncId → List AV → Nat → List AV → Prop) (_Sq : FuncId → List AV → List (List AV) → List (List AV) → Prop) (Q : AV → List (List AV) → Prop) : Prop :=
  ∃ b0, S (42 : Nat) [b.av, AV.int .i64 (0 : Int), AV.int .i64 (1000000 : Int)] [] (AV.bool b0) [] ∧ Q (AV.bool !b0) []
theorem r101 (b : TEncl) (S : SpecF) (Fr : FuncId → List AV → Nat → List AV → Prop) (Sq : FuncId → List AV → List (List AV) → List (List AV) → Prop) (Q : AV → List (List AV) → Prop) : awpF Try.prog (mkS Try.prog S Fr Sq ⟨[], [], [], [], []⟩ 0) 0 ⟨[0, 1, 2], [], [], []⟩ Try.f101 [b.av] [] Q = R101 b S Fr Sq Q := by kernel_rfl
theorem s101 (b : TEncl) (v : AV) (O : List (List AV)) (h : R101 b (SpecOf Try.prog) (FreshOf Try.prog) (SeqOf Try.prog) (fun r O' => r = v ∧ O' = O)) : SpecOf Try.prog 101 [b.av] [] v O :=
  spec_by (boxes := []) mixed (by exact trivial) Try.func101 Try.call101 rfl rfl rfl (Nat.le_of_ble_eq_true rfl) (r101 b (SpecOf Try.prog) (FreshOf Try.prog) (SeqOf Try.prog) _) h
theorem c101 (b : TEncl) : Sp 101 [b.av] [] (.bool (wildE b)) [] := s101 b _ _ ⟨_, c42 _ _ _, rfl, rfl⟩
def R122 (s : List TFePoint) (S : SpecF) (_Fr : FuncId → List AV → Nat → List AV → Prop) (_Sq : FuncId → List AV → List (List AV) → List (List AV) → Prop) (Q : AV → List (List AV) → Prop) : Prop :=
  ∃ (I0 : Nat → List AV → Prop), (∃ m2, I0 m2 [AV.int .i64 (0 : Int)]) ∧ ∀ (m2 : Nat) (n3 : Int), I0 m2 [AV.int .i64 n3] → (decide (n3 < (↑(List.map TFePoint.av s).length : Int)) = true → ∃ n7 n8 n9, ((0 : Int) ≤ n3 ∧ (3 : Nat) = (3 : Nat) ∧ (List.map TFePoint.av s)[n3.toNat]? = some (AV.agg [AV.int .i64 n7, AV.int .i64 n8, AV.int .i64 n9])) ∧ ∃ b11, S (97 : FuncId) [AV.agg [AV.int .i64 n7, AV.int .i64 n8, AV.int .i64 n9]] [] (AV.bool b11) [] ∧ (b11 = true → Q (AV.int .i64 n3) []) ∧ (b11 = false → ∃ k15, k15 < m2 ∧ I0 k15 [AV.int .i64 (IntKind.i64.wrap (n3 + (1 : Int)))])) ∧ (decide (n3 < (↑(List.map TFePoint.av s).length : Int)) = false → Q (AV.int .i64 (-1 : Int)) [])
theorem r122 (s : List TFePoint) (S : SpecF) (Fr : FuncId → List AV → Nat → List AV → Prop) (Sq : FuncId → List AV → List (List AV) → List (List AV) → Prop) (Q : AV → List (List AV) → Prop) : awpF Try.prog (mkS Try.prog S Fr Sq ⟨[], [], [], [], []⟩ 0) 0 ⟨[0, 1, 4, 5, 7, 8, 9, 16], [⟨2, [(8, .int .i64 0)], [], [], [], []⟩], [], []⟩ Try.f122 [.slc 3 (List.map TFePoint.av s), .fn 97 [] []] [] Q = R122 s S Fr Sq Q := by kernel_rfl
theorem s122 (s : List TFePoint) (v : AV) (O : List (List AV)) (h : R122 s (SpecOf Try.prog) (FreshOf Try.prog) (SeqOf Try.prog) (fun r O' => r = v ∧ O' = O)) : SpecOf Try.prog 122 [.slc 3 (List.map TFePoint.av s), .fn 97 [] []] [] v O :=
  spec_by (boxes := []) mixed (by exact trivial) Try.func122 Try.call122 rfl rfl rfl (Nat.le_of_ble_eq_true rfl) (r122 s (SpecOf Try.prog) (FreshOf Try.prog) (SeqOf Try.prog) _) h
theorem c122 (s : List TFePoint) (hl : s.length ≤ 1000000) : Sp 122 [.slc 3 (List.map TFePoint.av s), .fn 97 [] []] [] (.int .i64 (idxP wildP 0 s)) [] := s122 s _ _ (by
  refine ⟨fun m vs => ∃ n : Nat, vs = [.int .i64 n] ∧ n ≤ s.length ∧ m = s.length - n ∧ idxP wildP n (s.drop n) = idxP wildP 0 s, ⟨_, 0, rfl, by omega, rfl, rfl⟩, ?_⟩
  rintro m n ⟨k, hk, hle, rfl, hn⟩
  cases hk
  refine ⟨fun h3 => ?_, fun h3 => ⟨?_, rfl⟩⟩
  · have h3 : k < s.length := by simpa using h3
    obtain ⟨x, hx, hx'⟩ := map_getN (f := TFePoint.av) h3
    have hat := idxP_at (p := wildP) hx
    refine ⟨x.Current, x.Melt.Lo, x.Melt.Hi, ⟨by omega, rfl, hx'⟩, _, c97 x, fun h4 => ⟨?_, rfl⟩, fun h4 => ⟨_, ?_, k + 1, ?_, by omega, rfl, ?_⟩⟩
    · rw [← hn, hat, h4]; rfl
    · omega
    · rw [wrapN (by omega)]
    · rw [← hn, hat, h4]; rfl
  · have : k = s.length := by simp at h3; omega
    rw [← hn, this, List.drop_length]; rfl)
def R98 (s : List TFePoint) (S : SpecF) (_Fr : FuncId → List AV → Nat → List AV → Prop) (_Sq : FuncId → List AV → List (List AV) → List (List AV) → Prop) (Q : AV → List (List AV) → Prop) : Prop :=
  ∃ n0, S (122 : Nat) [AV.slc (3 : Nat) (List.map TFePoint.av s), AV.fn (97 : FuncId) [] []] [] (AV.int .i64 n0) [] ∧ Q (AV.bool (decide (n0 ≥ (0 : Int)))) []
theorem r98 (s : List TFePoint) (S : SpecF) (Fr : FuncId → List AV → Nat → List AV → Prop) (Sq : FuncId → List AV → List (List AV) → List (List AV) → Prop) (Q : AV → List (List AV) → Prop) : awpF Try.prog (mkS Try.prog S Fr Sq ⟨[], [], [], [], []⟩ 0) 0 ⟨[0, 1, 4], [], [], []⟩ Try.f98 [.slc 3 (List.map TFePoint.av s), .fn 97 [] []] [] Q = R98 s S Fr Sq Q := by kernel_rfl
theorem s98 (s : List TFePoint) (v : AV) (O : List (List AV)) (h : R98 s (SpecOf Try.prog) (FreshOf Try.prog) (SeqOf Try.prog) (fun r O' => r = v ∧ O' = O)) : SpecOf Try.prog 98 [.slc 3 (List.map TFePoint.av s), .fn 97 [] []] [] v O :=
  spec_by (boxes := []) mixed (by exact trivial) Try.func98 Try.call98 rfl rfl rfl (Nat.le_of_ble_eq_true rfl) (r98 s (SpecOf Try.prog) (FreshOf Try.prog) (SeqOf Try.prog) _) h
theorem c98 (s : List TFePoint) (hl : s.length ≤ 1000000) : Sp 98 [.slc 3 (List.map TFePoint.av s), .fn 97 [] []] [] (.bool (s.any wildP)) [] := s98 s _ _ (by
  refine ⟨_, c122 s hl, ?_, rfl⟩
  rw [idxP_ge])
def R124 (s : List TEncl) (S : SpecF) (_Fr : FuncId → List AV → Nat → List AV → Prop) (_Sq : FuncId → List AV → List (List AV) → List (List AV) → Prop) (Q : AV → List (List AV) → Prop) : Prop :=
  ∃ (I0 : Nat → List AV → Prop), (∃ m2, I0 m2 [AV.int .i64 (0 : Int)]) ∧ ∀ (m2 : Nat) (n3 : Int), I0 m2 [AV.int .i64 n3] → (decide (n3 < (↑(List.map TEncl.av s).length : Int)) = true → ∃ n7 n8, ((0 : Int) ≤ n3 ∧ (2 : Nat) = (2 : Nat) ∧ (List.map TEncl.av s)[n3.toNat]? = some (AV.agg [AV.int .i64 n7, AV.int .i64 n8])) ∧ ∃ b10, S (101 : FuncId) [AV.agg [AV.int .i64 n7, AV.int .i64 n8]] [] (AV.bool b10) [] ∧ (b10 = true → Q (AV.int .i64 n3) []) ∧ (b10 = false → ∃ k14, k14 < m2 ∧ I0 k14 [AV.int .i64 (IntKind.i64.wrap (n3 + (1 : Int)))])) ∧ (decide (n3 < (↑(List.map TEncl.av s).length : Int)) = false → Q (AV.int .i64 (-1 : Int)) [])
theorem r124 (s : List TEncl) (S : SpecF) (Fr : FuncId → List AV → Nat → List AV → Prop) (Sq : FuncId → List AV → List (List AV) → List (List AV) → Prop) (Q : AV → List (List AV) → Prop) : awpF Try.prog (mkS Try.prog S Fr Sq ⟨[], [], [], [], []⟩ 0) 0 ⟨[0, 1, 4, 5, 7, 8, 9, 16], [⟨2, [(8, .int .i64 0)], [], [], [], []⟩], [], []⟩ Try.f124 [.slc 3 (List.map TEncl.av s), .fn 101 [] []] [] Q = R124 s S Fr Sq Q := by kernel_rfl
theorem s124 (s : List TEncl) (v : AV) (O : List (List AV)) (h : R124 s (SpecOf Try.prog) (FreshOf Try.prog) (SeqOf Try.prog) (fun r O' => r = v ∧ O' = O)) : SpecOf Try.prog 124 [.slc 3 (List.map TEncl.av s), .fn 101 [] []] [] v O :=
  spec_by (boxes := []) mixed (by exact trivial) Try.func124 Try.call124 rfl rfl rfl (Nat.le_of_ble_eq_true rfl) (r124 s (SpecOf Try.prog) (FreshOf Try.prog) (SeqOf Try.prog) _) h
theorem c124 (s : List TEncl) (hl : s.length ≤ 1000000) : Sp 124 [.slc 3 (List.map TEncl.av s), .fn 101 [] []] [] (.int .i64 (idxP wildE 0 s)) [] := s124 s _ _ (by
  refine ⟨fun m vs => ∃ n : Nat, vs = [.int .i64 n] ∧ n ≤ s.length ∧ m = s.length - n ∧ idxP wildE n (s.drop n) = idxP wildE 0 s, ⟨_, 0, rfl, by omega, rfl, rfl⟩, ?_⟩
  rintro m n ⟨k, hk, hle, rfl, hn⟩
  cases hk
  refine ⟨fun h3 => ?_, fun h3 => ⟨?_, rfl⟩⟩
  · have h3 : k < s.length := by simpa using h3
    obtain ⟨x, hx, hx'⟩ := map_getN (f := TEncl.av) h3
    have hat := idxP_at (p := wildE) hx
    refine ⟨x.Lo, x.Hi, ⟨by omega, rfl, hx'⟩, _, c101 x, fun h4 => ⟨?_, rfl⟩, fun h4 => ⟨_, ?_, k + 1, ?_, by omega, rfl, ?_⟩⟩
    · rw [← hn, hat, h4]; rfl
    · omega
    · rw [wrapN (by omega)]
    · rw [← hn, hat, h4]; rfl
  · have : k = s.length := by simp at h3; omega
    rw [← hn, this, List.drop_length]; rfl)
def R102 (s : List TEncl) (S : SpecF) (_Fr : FuncId → List AV → Nat → List AV → Prop) (_Sq : FuncId → List AV → List (List AV) → List (List AV) → Prop) (Q : AV → List (List AV) → Prop) : Prop :=
  ∃ n0, S (124 : Nat) [AV.slc (3 : Nat) (List.map TEncl.av s), AV.fn (101 : FuncId) [] []] [] (AV.int .i64 n0) [] ∧ Q (AV.bool (decide (n0 ≥ (0 : Int)))) []
theorem r102 (s : List TEncl) (S : SpecF) (Fr : FuncId → List AV → Nat → List AV → Prop) (Sq : FuncId → List AV → List (List AV) → List (List AV) → Prop) (Q : AV → List (List AV) → Prop) : awpF Try.prog (mkS Try.prog S Fr Sq ⟨[], [], [], [], []⟩ 0) 0 ⟨[0, 1, 4], [], [], []⟩ Try.f102 [.slc 3 (List.map TEncl.av s), .fn 101 [] []] [] Q = R102 s S Fr Sq Q := by kernel_rfl
theorem s102 (s : List TEncl) (v : AV) (O : List (List AV)) (h : R102 s (SpecOf Try.prog) (FreshOf Try.prog) (SeqOf Try.prog) (fun r O' => r = v ∧ O' = O)) : SpecOf Try.prog 102 [.slc 3 (List.map TEncl.av s), .fn 101 [] []] [] v O :=
  spec_by (boxes := []) mixed (by exact trivial) Try.func102 Try.call102 rfl rfl rfl (Nat.le_of_ble_eq_true rfl) (r102 s (SpecOf Try.prog) (FreshOf Try.prog) (SeqOf Try.prog) _) h
theorem c102 (s : List TEncl) (hl : s.length ≤ 1000000) : Sp 102 [.slc 3 (List.map TEncl.av s), .fn 101 [] []] [] (.bool (s.any wildE)) [] := s102 s _ _ (by
  refine ⟨_, c124 s hl, ?_, rfl⟩
  rw [idxP_ge])
def R45 (x : TFeCable) (_S : SpecF) (_Fr : FuncId → List AV → Nat → List AV → Prop) (_Sq : FuncId → List AV → List (List AV) → List (List AV) → Prop) (Q : AV → List (List AV) → Prop) : Prop :=
  Q (AV.str x.Name) []
theorem r45 (x : TFeCable) (S : SpecF) (Fr : FuncId → List AV → Nat → List AV → Prop) (Sq : FuncId → List AV → List (List AV) → List (List AV) → Prop) (Q : AV → List (List AV) → Prop) : awpF Try.prog (mkS Try.prog S Fr Sq ⟨[], [], [], [], []⟩ 0) 0 ⟨[0, 1, 2], [], [], []⟩ Try.f45 [x.av] [] Q = R45 x S Fr Sq Q := by kernel_rfl
theorem s45 (x : TFeCable) (v : AV) (O : List (List AV)) (h : R45 x (SpecOf Try.prog) (FreshOf Try.prog) (SeqOf Try.prog) (fun r O' => r = v ∧ O' = O)) : SpecOf Try.prog 45 [x.av] [] v O :=
  spec_by (boxes := []) mixed (by exact trivial) Try.func45 Try.call45 rfl rfl rfl (Nat.le_of_ble_eq_true rfl) (r45 x (SpecOf Try.prog) (FreshOf Try.prog) (SeqOf Try.prog) _) h
theorem c45 (x : TFeCable) : Sp 45 [x.av] [] (.str x.Name) [] := s45 x _ _ ⟨rfl, rfl⟩
def R92 (y : TFeCable) (v1 : TFeCable) (S : SpecF) (_Fr : FuncId → List AV → Nat → List AV → Prop) (_Sq : FuncId → List AV → List (List AV) → List (List AV) → Prop) (Q : AV → List (List AV) → Prop) : Prop :=
  ∃ s0, S (45 : FuncId) [y.av] [] (AV.str s0) [] ∧ ∃ s2, S (45 : FuncId) [v1.av] [] (AV.str s2) [] ∧ Q (AV.bool (s0.toList == s2.toList)) [[AV.fn (45 : FuncId) [] []], v1.cs]
theorem r92 (y : TFeCable) (v1 : TFeCable) (S : SpecF) (Fr : FuncId → List AV → Nat → List AV → Prop) (Sq : FuncId → List AV → List (List AV) → List (List AV) → Prop) (Q : AV → List (List AV) → Prop) : awpF Try.prog (mkS Try.prog S Fr Sq ⟨[], [], [], [], []⟩ 0) 2 ⟨[0, 1, 2, 3, 4], [], [], []⟩ Try.f92 [y.av, .ref 0 0, .ref 1 0] [⟨86, false, [.fn 45 [] []]⟩, ⟨55, false, v1.cs⟩] Q = R92 y v1 S Fr Sq Q := by kernel_rfl
theorem s92 (y : TFeCable) (v1 : TFeCable) (v : AV) (O : List (List AV)) (h : R92 y v1 (SpecOf Try.prog) (FreshOf Try.prog) (SeqOf Try.prog) (fun r O' => r = v ∧ O' = O)) : SpecOf Try.prog 92 [y.av, .ref 0 0, .ref 1 0] [[.fn 45 [] []], v1.cs] v O :=
  spec_by (boxes := [⟨86, false, [.fn 45 [] []]⟩, ⟨55, false, v1.cs⟩]) mixed (by exact trivial) Try.func92 Try.call92 rfl rfl rfl (Nat.le_of_ble_eq_true rfl) (r92 y v1 (SpecOf Try.prog) (FreshOf Try.prog) (SeqOf Try.prog) _) h
theorem c92 (x y : TFeCable) : Sp 92 [x.av, .ref 0 0, .ref 1 0] [[.fn 45 [] []], y.cs] (.bool (twinB x.Name y.Name)) [[.fn 45 [] []], y.cs] := s92 x y _ _ ⟨_, c45 x, _, c45 y, rfl, rfl⟩
def R120 (s : List TFeCable) (f1 : TFeCable) (S : SpecF) (_Fr : FuncId → List AV → Nat → List AV → Prop) (_Sq : FuncId → List AV → List (List AV) → List (List AV) → Prop) (Q : AV → List (List AV) → Prop) : Prop :=
  ∃ (I0 : Nat → List AV → Prop), (∃ m2, I0 m2 [AV.int .i64 (0 : Int)]) ∧ ∀ (m2 : Nat) (n3 : Int), I0 m2 [AV.int .i64 n3] → (decide (n3 < (↑(List.map TFeCable.av s).length : Int)) = true → ∃ s7 n8 n9 n10 n11 n12, ((0 : Int) ≤ n3 ∧ (6 : Nat) = (6 : Nat) ∧ (List.map TFeCable.av s)[n3.toNat]? = some (AV.agg [AV.str s7, AV.int .i64 n8, AV.int .i64 n9, AV.int .i64 n10, AV.int .i64 n11, AV.int .i64 n12])) ∧ ∃ b14 s15 n16 n17 n18 n19 n20, S (92 : FuncId) [AV.agg [AV.str s7, AV.int .i64 n8, AV.int .i64 n9, AV.int .i64 n10, AV.int .i64 n11, AV.int .i64 n12], AV.ref (0 : Nat) (0 : Nat), AV.ref (1 : Nat) (0 : Nat)] [[AV.fn (45 : FuncId) [] []], f1.cs] (AV.bool b14) [[AV.fn (45 : FuncId) [] []], [AV.str s15, AV.int .i64 n16, AV.int .i64 n17, AV.int .i64 n18, AV.int .i64 n19, AV.int .i64 n20]] ∧ (b14 = true → Q (AV.int .i64 n3) [[AV.fn (45 : FuncId) [] []], [AV.str s15, AV.int .i64 n16, AV.int .i64 n17, AV.int .i64 n18, AV.int .i64 n19, AV.int .i64 n20]]) ∧ (b14 = false → [AV.fn (45 : FuncId) [] []] = [AV.fn (45 : FuncId) [] []] ∧ [AV.str s15, AV.int .i64 n16, AV.int .i64 n17, AV.int .i64 n18, AV.int .i64 n19, AV.int .i64 n20] = f1.cs ∧ ∃ k26, k26 < m2 ∧ I0 k26 [AV.int .i64 (IntKind.i64.wrap (n3 + (1 : Int)))])) ∧ (decide (n3 < (↑(List.map TFeCable.av s).length : Int)) = false → Q (AV.int .i64 (-1 : Int)) [[AV.fn (45 : FuncId) [] []], f1.cs])
theorem r120 (s : List TFeCable) (f1 : TFeCable) (S : SpecF) (Fr : FuncId → List AV → Nat → List AV → Prop) (Sq : FuncId → List AV → List (List AV) → List (List AV) → Prop) (Q : AV → List (List AV) → Prop) : awpF Try.prog (mkS Try.prog S Fr Sq ⟨[], [], [], [], []⟩ 0) 2 ⟨[0, 1, 4, 5, 7, 8, 9, 16], [⟨2, [(8, .int .i64 0)], [], [], [], []⟩], [], []⟩ Try.f120 [.slc 3 (List.map TFeCable.av s), .fn 92 [] [.ref 0 0, .ref 1 0]] [⟨86, false, [.fn 45 [] []]⟩, ⟨55, false, f1.cs⟩] Q = R120 s f1 S Fr Sq Q := by kernel_rfl
theorem s120 (s : List TFeCable) (f1 : TFeCable) (v : AV) (O : List (List AV)) (h : R120 s f1 (SpecOf Try.prog) (FreshOf Try.prog) (SeqOf Try.prog) (fun r O' => r = v ∧ O' = O)) : SpecOf Try.prog 120 [.slc 3 (List.map TFeCable.av s), .fn 92 [] [.ref 0 0, .ref 1 0]] [[.fn 45 [] []], f1.cs] v O :=
  spec_by (boxes := [⟨86, false, [.fn 45 [] []]⟩, ⟨55, false, f1.cs⟩]) mixed (by exact trivial) Try.func120 Try.call120 rfl rfl rfl (Nat.le_of_ble_eq_true rfl) (r120 s f1 (SpecOf Try.prog) (FreshOf Try.prog) (SeqOf Try.prog) _) h
theorem c120 (s : List TFeCable) (y : TFeCable) (hl : s.length ≤ 1000000) : Sp 120 [.slc 3 (List.map TFeCable.av s), .fn 92 [] [.ref 0 0, .ref 1 0]] [[.fn 45 [] []], y.cs] (.int .i64 (idxP (fun x => twinB x.Name y.Name) 0 s)) [[.fn 45 [] []], y.cs] := s120 s y _ _ (by
  refine ⟨fun m vs => ∃ n : Nat, vs = [.int .i64 n] ∧ n ≤ s.length ∧ m = s.length - n ∧ idxP (fun x => twinB x.Name y.Name) n (s.drop n) = idxP (fun x => twinB x.Name y.Name) 0 s, ⟨_, 0, rfl, by omega, rfl, rfl⟩, ?_⟩
  rintro m n ⟨k, hk, hle, rfl, hn⟩
  cases hk
  refine ⟨fun h3 => ?_, fun h3 => ⟨?_, rfl⟩⟩
  · have h3 : k < s.length := by simpa using h3
    obtain ⟨x, hx, hx'⟩ := map_getN (f := TFeCable.av) h3
    have hat := idxP_at (p := (fun x => twinB x.Name y.Name)) hx
    refine ⟨x.Name, x.Core.Lo, x.Core.Hi, x.Earth.Lo, x.Earth.Hi, x.Rated, ⟨by omega, rfl, hx'⟩, _, y.Name, y.Core.Lo, y.Core.Hi, y.Earth.Lo, y.Earth.Hi, y.Rated, c92 x y, fun h4 => ⟨?_, rfl⟩, fun h4 => ⟨rfl, rfl, _, ?_, k + 1, ?_, by omega, rfl, ?_⟩⟩
    · rw [← hn, hat, h4]; rfl
    · omega
    · rw [wrapN (by omega)]
    · rw [← hn, hat, h4]; rfl
  · have : k = s.length := by simp at h3; omega
    rw [← hn, this, List.drop_length]; rfl)
def R94 (s : List TFeCable) (f1 : TFeCable) (S : SpecF) (_Fr : FuncId → List AV → Nat → List AV → Prop) (_Sq : FuncId → List AV → List (List AV) → List (List AV) → Prop) (Q : AV → List (List AV) → Prop) : Prop :=
  ∃ n0 s1 n2 n3 n4 n5 n6, S (120 : Nat) [AV.slc (3 : Nat) (List.map TFeCable.av s), AV.fn (92 : FuncId) [] [AV.ref (0 : Nat) (0 : Nat), AV.ref (1 : Nat) (0 : Nat)]] [[AV.fn (45 : FuncId) [] []], f1.cs] (AV.int .i64 n0) [[AV.fn (45 : FuncId) [] []], [AV.str s1, AV.int .i64 n2, AV.int .i64 n3, AV.int .i64 n4, AV.int .i64 n5, AV.int .i64 n6]] ∧ Q (AV.bool (decide (n0 ≥ (0 : Int)))) [[AV.fn (45 : FuncId) [] []], [AV.str s1, AV.int .i64 n2, AV.int .i64 n3, AV.int .i64 n4, AV.int .i64 n5, AV.int .i64 n6]]
theorem r94 (s : List TFeCable) (f1 : TFeCable) (S : SpecF) (Fr : FuncId → List AV → Nat → List AV → Prop) (Sq : FuncId → List AV → List (List AV) → List (List AV) → Prop) (Q : AV → List (List AV) → Prop) : awpF Try.prog (mkS Try.prog S Fr Sq ⟨[], [], [], [], []⟩ 0) 2 ⟨[0, 1, 4], [], [], []⟩ Try.f94 [.slc 3 (List.map TFeCable.av s), .fn 92 [] [.ref 0 0, .ref 1 0]] [⟨86, false, [.fn 45 [] []]⟩, ⟨55, false, f1.cs⟩] Q = R94 s f1 S Fr Sq Q := by kernel_rfl
theorem s94 (s : List TFeCable) (f1 : TFeCable) (v : AV) (O : List (List AV)) (h : R94 s f1 (SpecOf Try.prog) (FreshOf Try.prog) (SeqOf Try.prog) (fun r O' => r = v ∧ O' = O)) : SpecOf Try.prog 94 [.slc 3 (List.map TFeCable.av s), .fn 92 [] [.ref 0 0, .ref 1 0]] [[.fn 45 [] []], f1.cs] v O :=
  spec_by (boxes := [⟨86, false, [.fn 45 [] []]⟩, ⟨55, false, f1.cs⟩]) mixed (by exact trivial) Try.func94 Try.call94 rfl rfl rfl (Nat.le_of_ble_eq_true rfl) (r94 s f1 (SpecOf Try.prog) (FreshOf Try.prog) (SeqOf Try.prog) _) h
theorem c94 (s : List TFeCable) (y : TFeCable) (hl : s.length ≤ 1000000) : Sp 94 [.slc 3 (List.map TFeCable.av s), .fn 92 [] [.ref 0 0, .ref 1 0]] [[.fn 45 [] []], y.cs] (.bool (s.any (fun x => twinB x.Name y.Name))) [[.fn 45 [] []], y.cs] := s94 s y _ _ (by
  refine ⟨_, y.Name, y.Core.Lo, y.Core.Hi, y.Earth.Lo, y.Earth.Hi, y.Rated, c120 s y hl, ?_, rfl⟩
  rw [idxP_ge])
def R48 (x : TFeFuse) (_S : SpecF) (_Fr : FuncId → List AV → Nat → List AV → Prop) (_Sq : FuncId → List AV → List (List AV) → List (List AV) → Prop) (Q : AV → List (List AV) → Prop) : Prop :=
  Q (AV.str x.Name) []
theorem r48 (x : TFeFuse) (S : SpecF) (Fr : FuncId → List AV → Nat → List AV → Prop) (Sq : FuncId → List AV → List (List AV) → List (List AV) → Prop) (Q : AV → List (List AV) → Prop) : awpF Try.prog (mkS Try.prog S Fr Sq ⟨[], [], [], [], []⟩ 0) 0 ⟨[0, 1, 2], [], [], []⟩ Try.f48 [x.av] [] Q = R48 x S Fr Sq Q := by kernel_rfl
theorem s48 (x : TFeFuse) (v : AV) (O : List (List AV)) (h : R48 x (SpecOf Try.prog) (FreshOf Try.prog) (SeqOf Try.prog) (fun r O' => r = v ∧ O' = O)) : SpecOf Try.prog 48 [x.av] [] v O :=
  spec_by (boxes := []) mixed (by exact trivial) Try.func48 Try.call48 rfl rfl rfl (Nat.le_of_ble_eq_true rfl) (r48 x (SpecOf Try.prog) (FreshOf Try.prog) (SeqOf Try.prog) _) h
theorem c48 (x : TFeFuse) : Sp 48 [x.av] [] (.str x.Name) [] := s48 x _ _ ⟨rfl, rfl⟩
def R95 (y : TFeFuse) (v1 : TFeFuse) (S : SpecF) (_Fr : FuncId → List AV → Nat → List AV → Prop) (_Sq : FuncId → List AV → List (List AV) → List (List AV) → Prop) (Q : AV → List (List AV) → Prop) : Prop :=
  ∃ s0, S (48 : FuncId) [y.av] [] (AV.str s0) [] ∧ ∃ s2, S (48 : FuncId) [v1.av] [] (AV.str s2) [] ∧ Q (AV.bool (s0.toList == s2.toList)) [[AV.fn (48 : FuncId) [] []], v1.cs]
theorem r95 (y : TFeFuse) (v1 : TFeFuse) (S : SpecF) (Fr : FuncId → List AV → Nat → List AV → Prop) (Sq : FuncId → List AV → List (List AV) → List (List AV) → Prop) (Q : AV → List (List AV) → Prop) : awpF Try.prog (mkS Try.prog S Fr Sq ⟨[], [], [], [], []⟩ 0) 2 ⟨[0, 1, 2, 3, 4], [], [], []⟩ Try.f95 [y.av, .ref 0 0, .ref 1 0] [⟨92, false, [.fn 48 [] []]⟩, ⟨91, false, v1.cs⟩] Q = R95 y v1 S Fr Sq Q := by kernel_rfl
theorem s95 (y : TFeFuse) (v1 : TFeFuse) (v : AV) (O : List (List AV)) (h : R95 y v1 (SpecOf Try.prog) (FreshOf Try.prog) (SeqOf Try.prog) (fun r O' => r = v ∧ O' = O)) : SpecOf Try.prog 95 [y.av, .ref 0 0, .ref 1 0] [[.fn 48 [] []], v1.cs] v O :=
  spec_by (boxes := [⟨92, false, [.fn 48 [] []]⟩, ⟨91, false, v1.cs⟩]) mixed (by exact trivial) Try.func95 Try.call95 rfl rfl rfl (Nat.le_of_ble_eq_true rfl) (r95 y v1 (SpecOf Try.prog) (FreshOf Try.prog) (SeqOf Try.prog) _) h
theorem c95 (x y : TFeFuse) : Sp 95 [x.av, .ref 0 0, .ref 1 0] [[.fn 48 [] []], y.cs] (.bool (twinB x.Name y.Name)) [[.fn 48 [] []], y.cs] := s95 x y _ _ ⟨_, c48 x, _, c48 y, rfl, rfl⟩
def R121 (s : List TFeFuse) (f1 : TFeFuse) (S : SpecF) (_Fr : FuncId → List AV → Nat → List AV → Prop) (_Sq : FuncId → List AV → List (List AV) → List (List AV) → Prop) (Q : AV → List (List AV) → Prop) : Prop :=
  ∃ (I0 : Nat → List AV → Prop), (∃ m2, I0 m2 [AV.int .i64 (0 : Int)]) ∧ ∀ (m2 : Nat) (n3 : Int), I0 m2 [AV.int .i64 n3] → (decide (n3 < (↑(List.map TFeFuse.av s).length : Int)) = true → ∃ s7 n8 es9, ((0 : Int) ≤ n3 ∧ (3 : Nat) = (3 : Nat) ∧ (List.map TFeFuse.av s)[n3.toNat]? = some (AV.agg [AV.str s7, AV.int .i64 n8, AV.slc (3 : Nat) es9])) ∧ ∃ b11 s12 n13 es14, S (95 : FuncId) [AV.agg [AV.str s7, AV.int .i64 n8, AV.slc (3 : Nat) es9], AV.ref (0 : Nat) (0 : Nat), AV.ref (1 : Nat) (0 : Nat)] [[AV.fn (48 : FuncId) [] []], f1.cs] (AV.bool b11) [[AV.fn (48 : FuncId) [] []], [AV.str s12, AV.int .i64 n13, AV.slc (3 : Nat) es14]] ∧ (b11 = true → Q (AV.int .i64 n3) [[AV.fn (48 : FuncId) [] []], [AV.str s12, AV.int .i64 n13, AV.slc (3 : Nat) es14]]) ∧ (b11 = false → [AV.fn (48 : FuncId) [] []] = [AV.fn (48 : FuncId) [] []] ∧ [AV.str s12, AV.int .i64 n13, AV.slc (3 : Nat) es14] = f1.cs ∧ ∃ k20, k20 < m2 ∧ I0 k20 [AV.int .i64 (IntKind.i64.wrap (n3 + (1 : Int)))])) ∧ (decide (n3 < (↑(List.map TFeFuse.av s).length : Int)) = false → Q (AV.int .i64 (-1 : Int)) [[AV.fn (48 : FuncId) [] []], f1.cs])
theorem r121 (s : List TFeFuse) (f1 : TFeFuse) (S : SpecF) (Fr : FuncId → List AV → Nat → List AV → Prop) (Sq : FuncId → List AV → List (List AV) → List (List AV) → Prop) (Q : AV → List (List AV) → Prop) : awpF Try.prog (mkS Try.prog S Fr Sq ⟨[], [], [], [], []⟩ 0) 2 ⟨[0, 1, 4, 5, 7, 8, 9, 16], [⟨2, [(8, .int .i64 0)], [], [], [], []⟩], [], []⟩ Try.f121 [.slc 3 (List.map TFeFuse.av s), .fn 95 [] [.ref 0 0, .ref 1 0]] [⟨92, false, [.fn 48 [] []]⟩, ⟨91, false, f1.cs⟩] Q = R121 s f1 S Fr Sq Q := by kernel_rfl
theorem s121 (s : List TFeFuse) (f1 : TFeFuse) (v : AV) (O : List (List AV)) (h : R121 s f1 (SpecOf Try.prog) (FreshOf Try.prog) (SeqOf Try.prog) (fun r O' => r = v ∧ O' = O)) : SpecOf Try.prog 121 [.slc 3 (List.map TFeFuse.av s), .fn 95 [] [.ref 0 0, .ref 1 0]] [[.fn 48 [] []], f1.cs] v O :=
  spec_by (boxes := [⟨92, false, [.fn 48 [] []]⟩, ⟨91, false, f1.cs⟩]) mixed (by exact trivial) Try.func121 Try.call121 rfl rfl rfl (Nat.le_of_ble_eq_true rfl) (r121 s f1 (SpecOf Try.prog) (FreshOf Try.prog) (SeqOf Try.prog) _) h
theorem c121 (s : List TFeFuse) (y : TFeFuse) (hl : s.length ≤ 1000000) : Sp 121 [.slc 3 (List.map TFeFuse.av s), .fn 95 [] [.ref 0 0, .ref 1 0]] [[.fn 48 [] []], y.cs] (.int .i64 (idxP (fun x => twinB x.Name y.Name) 0 s)) [[.fn 48 [] []], y.cs] := s121 s y _ _ (by
  refine ⟨fun m vs => ∃ n : Nat, vs = [.int .i64 n] ∧ n ≤ s.length ∧ m = s.length - n ∧ idxP (fun x => twinB x.Name y.Name) n (s.drop n) = idxP (fun x => twinB x.Name y.Name) 0 s, ⟨_, 0, rfl, by omega, rfl, rfl⟩, ?_⟩
  rintro m n ⟨k, hk, hle, rfl, hn⟩
  cases hk
  refine ⟨fun h3 => ?_, fun h3 => ⟨?_, rfl⟩⟩
  · have h3 : k < s.length := by simpa using h3
    obtain ⟨x, hx, hx'⟩ := map_getN (f := TFeFuse.av) h3
    have hat := idxP_at (p := (fun x => twinB x.Name y.Name)) hx
    refine ⟨x.Name, x.Rated, List.map TFePoint.av x.Points, ⟨by omega, rfl, hx'⟩, _, y.Name, y.Rated, List.map TFePoint.av y.Points, c95 x y, fun h4 => ⟨?_, rfl⟩, fun h4 => ⟨rfl, rfl, _, ?_, k + 1, ?_, by omega, rfl, ?_⟩⟩
    · rw [← hn, hat, h4]; rfl
    · omega
    · rw [wrapN (by omega)]
    · rw [← hn, hat, h4]; rfl
  · have : k = s.length := by simp at h3; omega
    rw [← hn, this, List.drop_length]; rfl)
def R96 (s : List TFeFuse) (f1 : TFeFuse) (S : SpecF) (_Fr : FuncId → List AV → Nat → List AV → Prop) (_Sq : FuncId → List AV → List (List AV) → List (List AV) → Prop) (Q : AV → List (List AV) → Prop) : Prop :=
  ∃ n0 s1 n2 es3, S (121 : Nat) [AV.slc (3 : Nat) (List.map TFeFuse.av s), AV.fn (95 : FuncId) [] [AV.ref (0 : Nat) (0 : Nat), AV.ref (1 : Nat) (0 : Nat)]] [[AV.fn (48 : FuncId) [] []], f1.cs] (AV.int .i64 n0) [[AV.fn (48 : FuncId) [] []], [AV.str s1, AV.int .i64 n2, AV.slc (3 : Nat) es3]] ∧ Q (AV.bool (decide (n0 ≥ (0 : Int)))) [[AV.fn (48 : FuncId) [] []], [AV.str s1, AV.int .i64 n2, AV.slc (3 : Nat) es3]]
theorem r96 (s : List TFeFuse) (f1 : TFeFuse) (S : SpecF) (Fr : FuncId → List AV → Nat → List AV → Prop) (Sq : FuncId → List AV → List (List AV) → List (List AV) → Prop) (Q : AV → List (List AV) → Prop) : awpF Try.prog (mkS Try.prog S Fr Sq ⟨[], [], [], [], []⟩ 0) 2 ⟨[0, 1, 4], [], [], []⟩ Try.f96 [.slc 3 (List.map TFeFuse.av s), .fn 95 [] [.ref 0 0, .ref 1 0]] [⟨92, false, [.fn 48 [] []]⟩, ⟨91, false, f1.cs⟩] Q = R96 s f1 S Fr Sq Q := by kernel_rfl
theorem s96 (s : List TFeFuse) (f1 : TFeFuse) (v : AV) (O : List (List AV)) (h : R96 s f1 (SpecOf Try.prog) (FreshOf Try.prog) (SeqOf Try.prog) (fun r O' => r = v ∧ O' = O)) : SpecOf Try.prog 96 [.slc 3 (List.map TFeFuse.av s), .fn 95 [] [.ref 0 0, .ref 1 0]] [[.fn 48 [] []], f1.cs] v O :=
  spec_by (boxes := [⟨92, false, [.fn 48 [] []]⟩, ⟨91, false, f1.cs⟩]) mixed (by exact trivial) Try.func96 Try.call96 rfl rfl rfl (Nat.le_of_ble_eq_true rfl) (r96 s f1 (SpecOf Try.prog) (FreshOf Try.prog) (SeqOf Try.prog) _) h
theorem c96 (s : List TFeFuse) (y : TFeFuse) (hl : s.length ≤ 1000000) : Sp 96 [.slc 3 (List.map TFeFuse.av s), .fn 95 [] [.ref 0 0, .ref 1 0]] [[.fn 48 [] []], y.cs] (.bool (s.any (fun x => twinB x.Name y.Name))) [[.fn 48 [] []], y.cs] := s96 s y _ _ (by
  refine ⟨_, y.Name, y.Rated, List.map TFePoint.av y.Points, c121 s y hl, ?_, rfl⟩
  rw [idxP_ge])
def R51 (x : TFeNode) (_S : SpecF) (_Fr : FuncId → List AV → Nat → List AV → Prop) (_Sq : FuncId → List AV → List (List AV) → List (List AV) → Prop) (Q : AV → List (List AV) → Prop) : Prop :=
  Q (AV.str x.Name) []
theorem r51 (x : TFeNode) (S : SpecF) (Fr : FuncId → List AV → Nat → List AV → Prop) (Sq : FuncId → List AV → List (List AV) → List (List AV) → Prop) (Q : AV → List (List AV) → Prop) : awpF Try.prog (mkS Try.prog S Fr Sq ⟨[], [], [], [], []⟩ 0) 0 ⟨[0, 1, 2], [], [], []⟩ Try.f51 [x.av] [] Q = R51 x S Fr Sq Q := by kernel_rfl
theorem s51 (x : TFeNode) (v : AV) (O : List (List AV)) (h : R51 x (SpecOf Try.prog) (FreshOf Try.prog) (SeqOf Try.prog) (fun r O' => r = v ∧ O' = O)) : SpecOf Try.prog 51 [x.av] [] v O :=
  spec_by (boxes := []) mixed (by exact trivial) Try.func51 Try.call51 rfl rfl rfl (Nat.le_of_ble_eq_true rfl) (r51 x (SpecOf Try.prog) (FreshOf Try.prog) (SeqOf Try.prog) _) h
theorem c51 (x : TFeNode) : Sp 51 [x.av] [] (.str x.Name) [] := s51 x _ _ ⟨rfl, rfl⟩
def R99 (y : TFeNode) (v1 : TFeNode) (S : SpecF) (_Fr : FuncId → List AV → Nat → List AV → Prop) (_Sq : FuncId → List AV → List (List AV) → List (List AV) → Prop) (Q : AV → List (List AV) → Prop) : Prop :=
  ∃ s0, S (51 : FuncId) [y.av] [] (AV.str s0) [] ∧ ∃ s2, S (51 : FuncId) [v1.av] [] (AV.str s2) [] ∧ Q (AV.bool (s0.toList == s2.toList)) [[AV.fn (51 : FuncId) [] []], v1.cs]
theorem r99 (y : TFeNode) (v1 : TFeNode) (S : SpecF) (Fr : FuncId → List AV → Nat → List AV → Prop) (Sq : FuncId → List AV → List (List AV) → List (List AV) → Prop) (Q : AV → List (List AV) → Prop) : awpF Try.prog (mkS Try.prog S Fr Sq ⟨[], [], [], [], []⟩ 0) 2 ⟨[0, 1, 2, 3, 4], [], [], []⟩ Try.f99 [y.av, .ref 0 0, .ref 1 0] [⟨95, false, [.fn 51 [] []]⟩, ⟨53, false, v1.cs⟩] Q = R99 y v1 S Fr Sq Q := by kernel_rfl
theorem s99 (y : TFeNode) (v1 : TFeNode) (v : AV) (O : List (List AV)) (h : R99 y v1 (SpecOf Try.prog) (FreshOf Try.prog) (SeqOf Try.prog) (fun r O' => r = v ∧ O' = O)) : SpecOf Try.prog 99 [y.av, .ref 0 0, .ref 1 0] [[.fn 51 [] []], v1.cs] v O :=
  spec_by (boxes := [⟨95, false, [.fn 51 [] []]⟩, ⟨53, false, v1.cs⟩]) mixed (by exact trivial) Try.func99 Try.call99 rfl rfl rfl (Nat.le_of_ble_eq_true rfl) (r99 y v1 (SpecOf Try.prog) (FreshOf Try.prog) (SeqOf Try.prog) _) h
theorem c99 (x y : TFeNode) : Sp 99 [x.av, .ref 0 0, .ref 1 0] [[.fn 51 [] []], y.cs] (.bool (twinB x.Name y.Name)) [[.fn 51 [] []], y.cs] := s99 x y _ _ ⟨_, c51 x, _, c51 y, rfl, rfl⟩
def R123 (s : List TFeNode) (f1 : TFeNode) (S : SpecF) (_Fr : FuncId → List AV → Nat → List AV → Prop) (_Sq : FuncId → List AV → List (List AV) → List (List AV) → Prop) (Q : AV → List (List AV) → Prop) : Prop :=
  ∃ (I0 : Nat → List AV → Prop), (∃ m2, I0 m2 [AV.int .i64 (0 : Int)]) ∧ ∀ (m2 : Nat) (n3 : Int), I0 m2 [AV.int .i64 n3] → (decide (n3 < (↑(List.map TFeNode.av s).length : Int)) = true → ∃ s7 n8 n9 n10 n11 n12 n13 n14 n15 n16 n17, ((0 : Int) ≤ n3 ∧ (11 : Nat) = (11 : Nat) ∧ (List.map TFeNode.av s)[n3.toNat]? = some (AV.agg [AV.str s7, AV.int .i64 n8, AV.int .i64 n9, AV.int .i64 n10, AV.int .i64 n11, AV.int .i64 n12, AV.int .i64 n13, AV.int .i64 n14, AV.int .i64 n15, AV.int .i64 n16, AV.int .i64 n17])) ∧ ∃ b19 s20 n21 n22 n23 n24 n25 n26 n27 n28 n29 n30, S (99 : FuncId) [AV.agg [AV.str s7, AV.int .i64 n8, AV.int .i64 n9, AV.int .i64 n10, AV.int .i64 n11, AV.int .i64 n12, AV.int .i64 n13, AV.int .i64 n14, AV.int .i64 n15, AV.int .i64 n16, AV.int .i64 n17], AV.ref (0 : Nat) (0 : Nat), AV.ref (1 : Nat) (0 : Nat)] [[AV.fn (51 : FuncId) [] []], f1.cs] (AV.bool b19) [[AV.fn (51 : FuncId) [] []], [AV.str s20, AV.int .i64 n21, AV.int .i64 n22, AV.int .i64 n23, AV.int .i64 n24, AV.int .i64 n25, AV.int .i64 n26, AV.int .i64 n27, AV.int .i64 n28, AV.int .i64 n29, AV.int .i64 n30]] ∧ (b19 = true → Q (AV.int .i64 n3) [[AV.fn (51 : FuncId) [] []], [AV.str s20, AV.int .i64 n21, AV.int .i64 n22, AV.int .i64 n23, AV.int .i64 n24, AV.int .i64 n25, AV.int .i64 n26, AV.int .i64 n27, AV.int .i64 n28, AV.int .i64 n29, AV.int .i64 n30]]) ∧ (b19 = false → [AV.fn (51 : FuncId) [] []] = [AV.fn (51 : FuncId) [] []] ∧ [AV.str s20, AV.int .i64 n21, AV.int .i64 n22, AV.int .i64 n23, AV.int .i64 n24, AV.int .i64 n25, AV.int .i64 n26, AV.int .i64 n27, AV.int .i64 n28, AV.int .i64 n29, AV.int .i64 n30] = f1.cs ∧ ∃ k36, k36 < m2 ∧ I0 k36 [AV.int .i64 (IntKind.i64.wrap (n3 + (1 : Int)))])) ∧ (decide (n3 < (↑(List.map TFeNode.av s).length : Int)) = false → Q (AV.int .i64 (-1 : Int)) [[AV.fn (51 : FuncId) [] []], f1.cs])
theorem r123 (s : List TFeNode) (f1 : TFeNode) (S : SpecF) (Fr : FuncId → List AV → Nat → List AV → Prop) (Sq : FuncId → List AV → List (List AV) → List (List AV) → Prop) (Q : AV → List (List AV) → Prop) : awpF Try.prog (mkS Try.prog S Fr Sq ⟨[], [], [], [], []⟩ 0) 2 ⟨[0, 1, 4, 5, 7, 8, 9, 16], [⟨2, [(8, .int .i64 0)], [], [], [], []⟩], [], []⟩ Try.f123 [.slc 3 (List.map TFeNode.av s), .fn 99 [] [.ref 0 0, .ref 1 0]] [⟨95, false, [.fn 51 [] []]⟩, ⟨53, false, f1.cs⟩] Q = R123 s f1 S Fr Sq Q := by kernel_rfl
theorem s123 (s : List TFeNode) (f1 : TFeNode) (v : AV) (O : List (List AV)) (h : R123 s f1 (SpecOf Try.prog) (FreshOf Try.prog) (SeqOf Try.prog) (fun r O' => r = v ∧ O' = O)) : SpecOf Try.prog 123 [.slc 3 (List.map TFeNode.av s), .fn 99 [] [.ref 0 0, .ref 1 0]] [[.fn 51 [] []], f1.cs] v O :=
  spec_by (boxes := [⟨95, false, [.fn 51 [] []]⟩, ⟨53, false, f1.cs⟩]) mixed (by exact trivial) Try.func123 Try.call123 rfl rfl rfl (Nat.le_of_ble_eq_true rfl) (r123 s f1 (SpecOf Try.prog) (FreshOf Try.prog) (SeqOf Try.prog) _) h
theorem c123 (s : List TFeNode) (y : TFeNode) (hl : s.length ≤ 1000000) : Sp 123 [.slc 3 (List.map TFeNode.av s), .fn 99 [] [.ref 0 0, .ref 1 0]] [[.fn 51 [] []], y.cs] (.int .i64 (idxP (fun x => twinB x.Name y.Name) 0 s)) [[.fn 51 [] []], y.cs] := s123 s y _ _ (by
  refine ⟨fun m vs => ∃ n : Nat, vs = [.int .i64 n] ∧ n ≤ s.length ∧ m = s.length - n ∧ idxP (fun x => twinB x.Name y.Name) n (s.drop n) = idxP (fun x => twinB x.Name y.Name) 0 s, ⟨_, 0, rfl, by omega, rfl, rfl⟩, ?_⟩
  rintro m n ⟨k, hk, hle, rfl, hn⟩
  cases hk
  refine ⟨fun h3 => ?_, fun h3 => ⟨?_, rfl⟩⟩
  · have h3 : k < s.length := by simpa using h3
    obtain ⟨x, hx, hx'⟩ := map_getN (f := TFeNode.av) h3
    have hat := idxP_at (p := (fun x => twinB x.Name y.Name)) hx
    refine ⟨x.Name, x.Parent, x.Cable, x.Length, x.Fuse, x.Loads0.Lo, x.Loads0.Hi, x.Loads1.Lo, x.Loads1.Hi, x.Loads2.Lo, x.Loads2.Hi, ⟨by omega, rfl, hx'⟩, _, y.Name, y.Parent, y.Cable, y.Length, y.Fuse, y.Loads0.Lo, y.Loads0.Hi, y.Loads1.Lo, y.Loads1.Hi, y.Loads2.Lo, y.Loads2.Hi, c99 x y, fun h4 => ⟨?_, rfl⟩, fun h4 => ⟨rfl, rfl, _, ?_, k + 1, ?_, by omega, rfl, ?_⟩⟩
    · rw [← hn, hat, h4]; rfl
    · omega
    · rw [wrapN (by omega)]
    · rw [← hn, hat, h4]; rfl
  · have : k = s.length := by simp at h3; omega
    rw [← hn, this, List.drop_length]; rfl)
def R100 (s : List TFeNode) (f1 : TFeNode) (S : SpecF) (_Fr : FuncId → List AV → Nat → List AV → Prop) (_Sq : FuncId → List AV → List (List AV) → List (List AV) → Prop) (Q : AV → List (List AV) → Prop) : Prop :=
  ∃ n0 s1 n2 n3 n4 n5 n6 n7 n8 n9 n10 n11, S (123 : Nat) [AV.slc (3 : Nat) (List.map TFeNode.av s), AV.fn (99 : FuncId) [] [AV.ref (0 : Nat) (0 : Nat), AV.ref (1 : Nat) (0 : Nat)]] [[AV.fn (51 : FuncId) [] []], f1.cs] (AV.int .i64 n0) [[AV.fn (51 : FuncId) [] []], [AV.str s1, AV.int .i64 n2, AV.int .i64 n3, AV.int .i64 n4, AV.int .i64 n5, AV.int .i64 n6, AV.int .i64 n7, AV.int .i64 n8, AV.int .i64 n9, AV.int .i64 n10, AV.int .i64 n11]] ∧ Q (AV.bool (decide (n0 ≥ (0 : Int)))) [[AV.fn (51 : FuncId) [] []], [AV.str s1, AV.int .i64 n2, AV.int .i64 n3, AV.int .i64 n4, AV.int .i64 n5, AV.int .i64 n6, AV.int .i64 n7, AV.int .i64 n8, AV.int .i64 n9, AV.int .i64 n10, AV.int .i64 n11]]
theorem r100 (s : List TFeNode) (f1 : TFeNode) (S : SpecF) (Fr : FuncId → List AV → Nat → List AV → Prop) (Sq : FuncId → List AV → List (List AV) → List (List AV) → Prop) (Q : AV → List (List AV) → Prop) : awpF Try.prog (mkS Try.prog S Fr Sq ⟨[], [], [], [], []⟩ 0) 2 ⟨[0, 1, 4], [], [], []⟩ Try.f100 [.slc 3 (List.map TFeNode.av s), .fn 99 [] [.ref 0 0, .ref 1 0]] [⟨95, false, [.fn 51 [] []]⟩, ⟨53, false, f1.cs⟩] Q = R100 s f1 S Fr Sq Q := by kernel_rfl
theorem s100 (s : List TFeNode) (f1 : TFeNode) (v : AV) (O : List (List AV)) (h : R100 s f1 (SpecOf Try.prog) (FreshOf Try.prog) (SeqOf Try.prog) (fun r O' => r = v ∧ O' = O)) : SpecOf Try.prog 100 [.slc 3 (List.map TFeNode.av s), .fn 99 [] [.ref 0 0, .ref 1 0]] [[.fn 51 [] []], f1.cs] v O :=
  spec_by (boxes := [⟨95, false, [.fn 51 [] []]⟩, ⟨53, false, f1.cs⟩]) mixed (by exact trivial) Try.func100 Try.call100 rfl rfl rfl (Nat.le_of_ble_eq_true rfl) (r100 s f1 (SpecOf Try.prog) (FreshOf Try.prog) (SeqOf Try.prog) _) h
theorem c100 (s : List TFeNode) (y : TFeNode) (hl : s.length ≤ 1000000) : Sp 100 [.slc 3 (List.map TFeNode.av s), .fn 99 [] [.ref 0 0, .ref 1 0]] [[.fn 51 [] []], y.cs] (.bool (s.any (fun x => twinB x.Name y.Name))) [[.fn 51 [] []], y.cs] := s100 s y _ _ (by
  refine ⟨_, y.Name, y.Parent, y.Cable, y.Length, y.Fuse, y.Loads0.Lo, y.Loads0.Hi, y.Loads1.Lo, y.Loads1.Hi, y.Loads2.Lo, y.Loads2.Hi, c123 s y hl, ?_, rfl⟩
  rw [idxP_ge])
theorem stepsS_at {l : List TFePoint} {k : Nat} {a b : TFePoint} (ha : l[k]? = some a) (hb : l[k + 1]? = some b) : stepsS (l.drop k) = if stepB a b then 2 else stepsS (l.drop (k + 1)) := by
  obtain ⟨hk, rfl⟩ := List.getElem?_eq_some_iff.1 ha
  obtain ⟨hk1, rfl⟩ := List.getElem?_eq_some_iff.1 hb
  rw [List.drop_eq_getElem_cons hk, List.drop_eq_getElem_cons hk1]; rfl
theorem stepsS_end {l : List TFePoint} {k : Nat} (h : l.length ≤ k + 1) : stepsS (l.drop k) = 0 := by
  have : (l.drop k).length ≤ 1 := by rw [List.length_drop]; omega
  match hd : l.drop k with
  | [] => rfl
  | [_] => rfl
  | a :: b :: r => rw [hd] at this; simp at this
theorem elems_map {α : Type} {f : α → AV} {n : Nat} (h : ∀ x, (f x).cells.length = n) (l : List α) : elemsOf n (l.map f) := by
  intro v hv
  obtain ⟨x, _, rfl⟩ := List.mem_map.1 hv
  exact h x
def R49 (_a0 : Int) (x : TFeFuse) (S : SpecF) (_Fr : FuncId → List AV → Nat → List AV → Prop) (_Sq : FuncId → List AV → List (List AV) → List (List AV) → Prop) (Q : AV → List (List AV) → Prop) : Prop :=
  ∃ b0, S (43 : Nat) [AV.int .i64 (↑(List.map TFePoint.av x.Points).length : Int), AV.int .i64 (1 : Int), AV.int .i64 (8 : Int)] [] (AV.bool b0) [] ∧ ((!b0) = true → Q (AV.int .i64 (3 : Int)) []) ∧ ((!b0) = false → ∃ b4, S (43 : Nat) [AV.int .i64 x.Rated, AV.int .i64 (1 : Int), AV.int .i64 (100000000 : Int)] [] (AV.bool b4) [] ∧ ((!b4) = true → Q (AV.int .i64 (7 : Int)) []) ∧ ((!b4) = false → ∃ b8, S (98 : Nat) [AV.slc (3 : Nat) (List.map TFePoint.av x.Points), AV.fn (97 : Nat) [] []] [] (AV.bool b8) [] ∧ (b8 = true → Q (AV.int .i64 (7 : Int)) []) ∧ (b8 = false → ((0 : Int) ≤ (1 : Int) ∧ (1 : Int) ≤ (↑(List.map TFePoint.av x.Points).length : Int) ∧ (↑(List.map TFePoint.av x.Points).length : Int) ≤ (↑(List.map TFePoint.av x.Points).length : Int) ∧ elemsOf (3 : Nat) (List.map TFePoint.av x.Points)) ∧ ∃ (I13 : Nat → List AV → Prop), (∃ m15, I13 m15 [AV.int .i64 (0 : Int)]) ∧ ∀ (m15 : Nat) (n16 : Int), I13 m15 [AV.int .i64 n16] → (decide (n16 < (↑(List.take ((↑(List.map TFePoint.av x.Points).length : Int).toNat - Int.toNat (1 : Int)) (List.drop (Int.toNat (1 : Int)) (List.map TFePoint.av x.Points))).length : Int)) = true → ∃ n20 n21 n22, ((0 : Int) ≤ n16 ∧ (3 : Nat) = (3 : Nat) ∧ (List.take ((↑(List.map TFePoint.av x.Points).length : Int).toNat - (1 : Nat)) (List.drop (1 : Nat) (List.map TFePoint.av x.Points)))[n16.toNat]? = some (AV.agg [AV.int .i64 n20, AV.int .i64 n21, AV.int .i64 n22])) ∧ ∃ n24 n25 n26, ((0 : Int) ≤ n16 ∧ (3 : Nat) = (3 : Nat) ∧ (List.map TFePoint.av x.Points)[n16.toNat]? = some (AV.agg [AV.int .i64 n24, AV.int .i64 n25, AV.int .i64 n26])) ∧ (decide (n20 ≤ n24) = true → Q (AV.int .i64 (2 : Int)) []) ∧ (decide (n20 ≤ n24) = false → (decide (n21 > n25) = true → Q (AV.int .i64 (2 : Int)) []) ∧ (decide (n21 > n25) = false → (decide (n22 > n26) = true → Q (AV.int .i64 (2 : Int)) []) ∧ (decide (n22 > n26) = false → x.cs = x.cs ∧ ∃ k35, k35 < m15 ∧ I13 k35 [AV.int .i64 (IntKind.i64.wrap (n16 + (1 : Int)))])))) ∧ (decide (n16 < (↑(List.take ((↑(List.map TFePoint.av x.Points).length : Int).toNat - Int.toNat (1 : Int)) (List.drop (Int.toNat (1 : Int)) (List.map TFePoint.av x.Points))).length : Int)) = false → Q (AV.int .i64 (0 : Int)) []))))
theorem r49 (a0 : Int) (x : TFeFuse) (S : SpecF) (Fr : FuncId → List AV → Nat → List AV → Prop) (Sq : FuncId → List AV → List (List AV) → List (List AV) → Prop) (Q : AV → List (List AV) → Prop) : awpF Try.prog (mkS Try.prog S Fr Sq ⟨[], [], [98, 97], [], []⟩ 0) 0 ⟨[1, 3, 4, 5, 6, 7, 8, 13, 23, 26, 27, 28, 29, 60], [⟨7, [(28, .int .i64 0)], [], [], [], []⟩], [], []⟩ Try.f49 [.int .i64 a0, x.av] [] Q = R49 a0 x S Fr Sq Q := by kernel_rfl
theorem s49 (a0 : Int) (x : TFeFuse) (v : AV) (O : List (List AV)) (h : R49 a0 x (SpecOf Try.prog) (FreshOf Try.prog) (SeqOf Try.prog) (fun r O' => r = v ∧ O' = O)) : SpecOf Try.prog 49 [.int .i64 a0, x.av] [] v O :=
  spec_by (boxes := []) mixed (by exact trivial) Try.func49 Try.call49 rfl rfl rfl (Nat.le_of_ble_eq_true rfl) (r49 a0 x (SpecOf Try.prog) (FreshOf Try.prog) (SeqOf Try.prog) _) h
theorem c49 (i : Nat) (x : TFeFuse) : Sp 49 [.int .i64 i, x.av] [] (.int .i64 (curveS i x)) [] := s49 i x _ _ (by
  unfold R49
  simp only [List.length_map]
  refine ⟨_, c43 _ _ _, fun h1 => ⟨?_, trivial⟩, fun h1 => ⟨_, c43 _ _ _, fun h2 => ⟨?_, trivial⟩, fun h2 => ?_⟩⟩
  · rw [curveS, if_pos h1]
  · have h1' : ¬ (!inB x.Points.length 1 8) = true := by rw [h1]; simp
    rw [curveS, if_neg h1', h2]; rfl
  have h1' : ¬ (!inB x.Points.length 1 8) = true := by rw [h1]; simp
  have h8 := inB_iff.1 (by simpa using h1 : inB x.Points.length 1 8 = true)
  refine ⟨_, c98 x.Points (by omega), fun h3 => ⟨?_, trivial⟩, fun h3 => ⟨⟨by omega, by omega, by omega, elems_map (f := TFePoint.av) (n := 3) (fun _ => rfl) _⟩, ?_⟩⟩
  · rw [curveS, if_neg h1', h2, h3]; rfl
  have hc : curveS i x = stepsS x.Points := by rw [curveS, if_neg h1', h2, h3]; rfl
  have hto : ((x.Points.length : Int)).toNat - (1 : Int).toNat = x.Points.length - 1 := by omega
  have hlen : (List.take (((x.Points.length : Int)).toNat - (1 : Int).toNat) (List.drop (1 : Int).toNat (List.map TFePoint.av x.Points))).length = x.Points.length - 1 := by rw [List.length_take, List.length_drop, List.length_map]; omega
  simp only [hlen]
  refine ⟨fun m vs => ∃ n : Nat, vs = [.int .i64 n] ∧ n ≤ x.Points.length - 1 ∧ m = x.Points.length - 1 - n ∧ stepsS (x.Points.drop n) = stepsS x.Points, ⟨_, 0, rfl, by omega, rfl, rfl⟩, ?_⟩
  rintro m n ⟨k, hk, hle, rfl, hn⟩
  cases hk
  refine ⟨fun h4 => ?_, fun h4 => ⟨?_, trivial⟩⟩
  · have h4 : k < x.Points.length - 1 := by simpa using h4
    obtain ⟨a, ha, ha'⟩ := map_getN (f := TFePoint.av) (l := x.Points) (k := k) (by omega)
    obtain ⟨b, hb, hb'⟩ := map_getN (f := TFePoint.av) (l := x.Points) (k := k + 1) (by omega)
    have hat := stepsS_at ha hb
    have h4' : k + 1 ≤ x.Points.length - 1 := h4
    have hb2 : (List.take (((x.Points.length : Int)).toNat - (1 : Int).toNat) (List.drop (1 : Int).toNat (List.map TFePoint.av x.Points)))[(k : Int).toNat]? = some b.av := by
      rw [List.getElem?_take, if_pos (by omega), List.getElem?_drop]
      have : (1 : Int).toNat + (k : Int).toNat = ((k + 1 : Nat) : Int).toNat := by omega
      rw [this]; exact hb'
    refine ⟨b.Current, b.Melt.Lo, b.Melt.Hi, ⟨by omega, trivial, hb2⟩, a.Current, a.Melt.Lo, a.Melt.Hi, ⟨by omega, trivial, ha'⟩, fun h5 => ⟨?_, trivial⟩, fun h5 => ⟨fun h6 => ⟨?_, trivial⟩, fun h6 => ⟨fun h7 => ⟨?_, trivial⟩, fun h7 => ⟨by trivial, _, ?_, k + 1, ?_, h4', rfl, ?_⟩⟩⟩⟩
    · rw [hc, ← hn, hat, stepB, h5]; rfl
    · rw [hc, ← hn, hat, stepB, h5, h6]; rfl
    · rw [hc, ← hn, hat, stepB, h5, h6, h7]; rfl
    · omega
    · rw [wrapN (by omega)]
    · rw [← hn, hat, stepB, h5, h6, h7]; rfl
  · have : k = x.Points.length - 1 := by simp at h4; omega
    rw [hc, ← hn, stepsS_end (by omega)])
def R44 (l : List TFeCable) (S : SpecF) (_Fr : FuncId → List AV → Nat → List AV → Prop) (_Sq : FuncId → List AV → List (List AV) → List (List AV) → Prop) (Q : AV → List (List AV) → Prop) : Prop :=
  ∃ (I0 : Nat → List AV → Prop), (∃ m2, I0 m2 [AV.int .i64 (0 : Int)]) ∧ ∀ (m2 : Nat) (n3 : Int), I0 m2 [AV.int .i64 n3] → (decide (n3 < (↑(List.map TFeCable.av l).length : Int)) = true → ∃ s7 n8 n9 n10 n11 n12, ((0 : Int) ≤ n3 ∧ (6 : Nat) = (6 : Nat) ∧ (List.map TFeCable.av l)[n3.toNat]? = some (AV.agg [AV.str s7, AV.int .i64 n8, AV.int .i64 n9, AV.int .i64 n10, AV.int .i64 n11, AV.int .i64 n12])) ∧ ∃ s14, S (45 : FuncId) [AV.agg [AV.str s7, AV.int .i64 n8, AV.int .i64 n9, AV.int .i64 n10, AV.int .i64 n11, AV.int .i64 n12]] [] (AV.str s14) [] ∧ ∃ b16, S (93 : Nat) [AV.str s14] [] (AV.bool b16) [] ∧ ((!b16) = true → Q (AV.tup [AV.int .i64 n3, AV.int .i64 (6 : Int)]) []) ∧ ((!b16) = false → ((0 : Int) ≤ n3 ∧ n3 ≤ (↑(List.map TFeCable.av l).length : Int)) ∧ ∃ b21, S (94 : Nat) [AV.slc (3 : Nat) (List.take n3.toNat (List.map TFeCable.av l)), AV.fn (92 : Nat) [] [AV.ref (0 : Nat) (0 : Nat), AV.ref (1 : Nat) (0 : Nat)]] [[AV.fn (45 : FuncId) [] []], [AV.str s7, AV.int .i64 n8, AV.int .i64 n9, AV.int .i64 n10, AV.int .i64 n11, AV.int .i64 n12]] (AV.bool b21) [[AV.fn (45 : FuncId) [] []], [AV.str s7, AV.int .i64 n8, AV.int .i64 n9, AV.int .i64 n10, AV.int .i64 n11, AV.int .i64 n12]] ∧ (b21 = true → Q (AV.tup [AV.int .i64 n3, AV.int .i64 (5 : Int)]) []) ∧ (b21 = false → ∃ n25, S (46 : FuncId) [AV.int .i64 n3, AV.agg [AV.str s7, AV.int .i64 n8, AV.int .i64 n9, AV.int .i64 n10, AV.int .i64 n11, AV.int .i64 n12]] [] (AV.int .i64 n25) [] ∧ ((n25 != (0 : Int)) = true → Q (AV.tup [AV.int .i64 n3, AV.int .i64 n25]) []) ∧ ((n25 != (0 : Int)) = false → [AV.fn (45 : FuncId) [] []] = [AV.fn (45 : FuncId) [] []] ∧ ∃ k30, k30 < m2 ∧ I0 k30 [AV.int .i64 (IntKind.i64.wrap (n3 + (1 : Int)))])))) ∧ (decide (n3 < (↑(List.map TFeCable.av l).length : Int)) = false → Q (AV.tup TEncl.zero.cs) [])
theorem r44 (l : List TFeCable) (S : SpecF) (Fr : FuncId → List AV → Nat → List AV → Prop) (Sq : FuncId → List AV → List (List AV) → List (List AV) → Prop) (Q : AV → List (List AV) → Prop) : awpF Try.prog (mkS Try.prog S Fr Sq ⟨[], [], [94, 92], [], []⟩ 0) 0 ⟨[0, 1, 2, 4, 6, 7, 8, 9, 10, 11, 12, 13, 14, 15, 20, 27, 39], [⟨2, [(14, .int .i64 0)], [], [], [], []⟩], [], []⟩ Try.f44 [.slc 3 (List.map TFeCable.av l), .fn 45 [] [], .fn 46 [] []] [] Q = R44 l S Fr Sq Q := by kernel_rfl
theorem s44 (l : List TFeCable) (v : AV) (O : List (List AV)) (h : R44 l (SpecOf Try.prog) (FreshOf Try.prog) (SeqOf Try.prog) (fun r O' => r = v ∧ O' = O)) : SpecOf Try.prog 44 [.slc 3 (List.map TFeCable.av l), .fn 45 [] [], .fn 46 [] []] [] v O :=
  spec_by (boxes := []) mixed (by exact trivial) Try.func44 Try.call44 rfl rfl rfl (Nat.le_of_ble_eq_true rfl) (r44 l (SpecOf Try.prog) (FreshOf Try.prog) (SeqOf Try.prog) _) h
theorem c44 (l : List TFeCable) (hl : l.length ≤ 1000) (hnm : ∀ x ∈ l, x.Name.size ≤ 9223372036854775807) : Sp 44 [.slc 3 (List.map TFeCable.av l), .fn 45 [] [], .fn 46 [] []] [] (.tup [.int .i64 (firstE (errAt TFeCable.Name cableS l) l.length 0).1, .int .i64 (firstE (errAt TFeCable.Name cableS l) l.length 0).2]) [] := s44 l _ _ (by
  refine ⟨fun m vs => ∃ n : Nat, vs = [.int .i64 n] ∧ n ≤ l.length ∧ m = l.length - n ∧ firstE (errAt TFeCable.Name cableS l) (l.length - n) n = firstE (errAt TFeCable.Name cableS l) l.length 0, ⟨_, 0, rfl, by omega, rfl, rfl⟩, ?_⟩
  intro m n
  rintro ⟨k, hk, hle, rfl, hn⟩
  cases hk
  refine ⟨fun h3 => ?_, fun h3 => ⟨?_, rfl⟩⟩
  · have h3 : k < l.length := by simpa using h3
    obtain ⟨x, hx, hx'⟩ := map_getN (f := TFeCable.av) h3
    have hat := errAt_some (nm := TFeCable.Name) (rest := cableS) hx
    have hf := firstE_at (e := errAt TFeCable.Name cableS l) h3
    have hmem : x ∈ l := List.mem_of_getElem? hx
    have htake : List.take (k : Int).toNat (List.map TFeCable.av l) = List.map TFeCable.av (l.take k) := by rw [Int.toNat_natCast, List.map_take]
    refine ⟨x.Name, x.Core.Lo, x.Core.Hi, x.Earth.Lo, x.Earth.Hi, x.Rated, ⟨by omega, rfl, hx'⟩, _, c45 x, _, c93 _ (hnm x hmem), fun h4 => ⟨?_, rfl⟩, fun h4 => ⟨⟨by omega, by simp; omega⟩, ((l.take k).any fun z => twinB z.Name x.Name), (by rw [htake]; exact c94 (l.take k) x (by rw [List.length_take]; omega)), fun h5 => ⟨?_, rfl⟩, fun h5 => ⟨_, c46 k x, fun h6 => ⟨?_, rfl⟩, fun h6 => ⟨rfl, _, (by omega : l.length - (k + 1) < l.length - k), k + 1, ?_, by omega, rfl, ?_⟩⟩⟩⟩
    · have he : errAt TFeCable.Name cableS l k = 6 := by rw [hat, if_pos h4]
      rw [← hn, hf, he]; rfl
    · have h4' : ¬ (!nameB x.Name) = true := by rw [h4]; simp
      have he : errAt TFeCable.Name cableS l k = 5 := by rw [hat, if_neg h4', if_pos h5]
      rw [← hn, hf, he]; rfl
    · have h4' : ¬ (!nameB x.Name) = true := by rw [h4]; simp
      have h5' : ¬ ((l.take k).any fun z => twinB z.Name x.Name) = true := by rw [h5]; simp
      have he : errAt TFeCable.Name cableS l k = cableS k x := by rw [hat, if_neg h4', if_neg h5']
      have h6 : cableS k x ≠ 0 := by simpa using h6
      rw [← hn, hf, he, if_pos h6]
    · rw [wrapN (by omega)]; try rfl
    · have h4' : ¬ (!nameB x.Name) = true := by rw [h4]; simp
      have h5' : ¬ ((l.take k).any fun z => twinB z.Name x.Name) = true := by rw [h5]; simp
      have he : errAt TFeCable.Name cableS l k = cableS k x := by rw [hat, if_neg h4', if_neg h5']
      have h6 : cableS k x = 0 := by simpa using h6
      rw [← hn, hf, he, if_neg (by rw [h6]; simp)]
  · have : k = l.length := by simp at h3; omega
    rw [← hn, this, Nat.sub_self]; rfl)
def R47 (l : List TFeFuse) (S : SpecF) (_Fr : FuncId → List AV → Nat → List AV → Prop) (_Sq : FuncId → List AV → List (List AV) → List (List AV) → Prop) (Q : AV → List (List AV) → Prop) : Prop :=
  ∃ (I0 : Nat → List AV → Prop), (∃ m2, I0 m2 [AV.int .i64 (0 : Int)]) ∧ ∀ (m2 : Nat) (n3 : Int), I0 m2 [AV.int .i64 n3] → (decide (n3 < (↑(List.map TFeFuse.av l).length : Int)) = true → ∃ s7 n8 es9, ((0 : Int) ≤ n3 ∧ (3 : Nat) = (3 : Nat) ∧ (List.map TFeFuse.av l)[n3.toNat]? = some (AV.agg [AV.str s7, AV.int .i64 n8, AV.slc (3 : Nat) es9])) ∧ ∃ s11, S (48 : FuncId) [AV.agg [AV.str s7, AV.int .i64 n8, AV.slc (3 : Nat) es9]] [] (AV.str s11) [] ∧ ∃ b13, S (93 : Nat) [AV.str s11] [] (AV.bool b13) [] ∧ ((!b13) = true → Q (AV.tup [AV.int .i64 n3, AV.int .i64 (6 : Int)]) []) ∧ ((!b13) = false → ((0 : Int) ≤ n3 ∧ n3 ≤ (↑(List.map TFeFuse.av l).length : Int)) ∧ ∃ b18, S (96 : Nat) [AV.slc (3 : Nat) (List.take n3.toNat (List.map TFeFuse.av l)), AV.fn (95 : Nat) [] [AV.ref (0 : Nat) (0 : Nat), AV.ref (1 : Nat) (0 : Nat)]] [[AV.fn (48 : FuncId) [] []], [AV.str s7, AV.int .i64 n8, AV.slc (3 : Nat) es9]] (AV.bool b18) [[AV.fn (48 : FuncId) [] []], [AV.str s7, AV.int .i64 n8, AV.slc (3 : Nat) es9]] ∧ (b18 = true → Q (AV.tup [AV.int .i64 n3, AV.int .i64 (5 : Int)]) []) ∧ (b18 = false → ∃ n22, S (49 : FuncId) [AV.int .i64 n3, AV.agg [AV.str s7, AV.int .i64 n8, AV.slc (3 : Nat) es9]] [] (AV.int .i64 n22) [] ∧ ((n22 != (0 : Int)) = true → Q (AV.tup [AV.int .i64 n3, AV.int .i64 n22]) []) ∧ ((n22 != (0 : Int)) = false → [AV.fn (48 : FuncId) [] []] = [AV.fn (48 : FuncId) [] []] ∧ ∃ k27, k27 < m2 ∧ I0 k27 [AV.int .i64 (IntKind.i64.wrap (n3 + (1 : Int)))])))) ∧ (decide (n3 < (↑(List.map TFeFuse.av l).length : Int)) = false → Q (AV.tup TEncl.zero.cs) [])
theorem r47 (l : List TFeFuse) (S : SpecF) (Fr : FuncId → List AV → Nat → List AV → Prop) (Sq : FuncId → List AV → List (List AV) → List (List AV) → Prop) (Q : AV → List (List AV) → Prop) : awpF Try.prog (mkS Try.prog S Fr Sq ⟨[], [], [96, 95], [], []⟩ 0) 0 ⟨[0, 1, 2, 4, 6, 7, 8, 9, 10, 11, 12, 13, 14, 15, 20, 27, 39], [⟨2, [(14, .int .i64 0)], [], [], [], []⟩], [], []⟩ Try.f47 [.slc 3 (List.map TFeFuse.av l), .fn 48 [] [], .fn 49 [] []] [] Q = R47 l S Fr Sq Q := by kernel_rfl
theorem s47 (l : List TFeFuse) (v : AV) (O : List (List AV)) (h : R47 l (SpecOf Try.prog) (FreshOf Try.prog) (SeqOf Try.prog) (fun r O' => r = v ∧ O' = O)) : SpecOf Try.prog 47 [.slc 3 (List.map TFeFuse.av l), .fn 48 [] [], .fn 49 [] []] [] v O :=
  spec_by (boxes := []) mixed (by exact trivial) Try.func47 Try.call47 rfl rfl rfl (Nat.le_of_ble_eq_true rfl) (r47 l (SpecOf Try.prog) (FreshOf Try.prog) (SeqOf Try.prog) _) h
theorem c47 (l : List TFeFuse) (hl : l.length ≤ 1000) (hnm : ∀ x ∈ l, x.Name.size ≤ 9223372036854775807) : Sp 47 [.slc 3 (List.map TFeFuse.av l), .fn 48 [] [], .fn 49 [] []] [] (.tup [.int .i64 (firstE (errAt TFeFuse.Name curveS l) l.length 0).1, .int .i64 (firstE (errAt TFeFuse.Name curveS l) l.length 0).2]) [] := s47 l _ _ (by
  refine ⟨fun m vs => ∃ n : Nat, vs = [.int .i64 n] ∧ n ≤ l.length ∧ m = l.length - n ∧ firstE (errAt TFeFuse.Name curveS l) (l.length - n) n = firstE (errAt TFeFuse.Name curveS l) l.length 0, ⟨_, 0, rfl, by omega, rfl, rfl⟩, ?_⟩
  intro m n
  rintro ⟨k, hk, hle, rfl, hn⟩
  cases hk
  refine ⟨fun h3 => ?_, fun h3 => ⟨?_, rfl⟩⟩
  · have h3 : k < l.length := by simpa using h3
    obtain ⟨x, hx, hx'⟩ := map_getN (f := TFeFuse.av) h3
    have hat := errAt_some (nm := TFeFuse.Name) (rest := curveS) hx
    have hf := firstE_at (e := errAt TFeFuse.Name curveS l) h3
    have hmem : x ∈ l := List.mem_of_getElem? hx
    have htake : List.take (k : Int).toNat (List.map TFeFuse.av l) = List.map TFeFuse.av (l.take k) := by rw [Int.toNat_natCast, List.map_take]
    refine ⟨x.Name, x.Rated, List.map TFePoint.av x.Points, ⟨by omega, rfl, hx'⟩, _, c48 x, _, c93 _ (hnm x hmem), fun h4 => ⟨?_, rfl⟩, fun h4 => ⟨⟨by omega, by simp; omega⟩, ((l.take k).any fun z => twinB z.Name x.Name), (by rw [htake]; exact c96 (l.take k) x (by rw [List.length_take]; omega)), fun h5 => ⟨?_, rfl⟩, fun h5 => ⟨_, c49 k x, fun h6 => ⟨?_, rfl⟩, fun h6 => ⟨rfl, _, (by omega : l.length - (k + 1) < l.length - k), k + 1, ?_, by omega, rfl, ?_⟩⟩⟩⟩
    · have he : errAt TFeFuse.Name curveS l k = 6 := by rw [hat, if_pos h4]
      rw [← hn, hf, he]; rfl
    · have h4' : ¬ (!nameB x.Name) = true := by rw [h4]; simp
      have he : errAt TFeFuse.Name curveS l k = 5 := by rw [hat, if_neg h4', if_pos h5]
      rw [← hn, hf, he]; rfl
    · have h4' : ¬ (!nameB x.Name) = true := by rw [h4]; simp
      have h5' : ¬ ((l.take k).any fun z => twinB z.Name x.Name) = true := by rw [h5]; simp
      have he : errAt TFeFuse.Name curveS l k = curveS k x := by rw [hat, if_neg h4', if_neg h5']
      have h6 : curveS k x ≠ 0 := by simpa using h6
      rw [← hn, hf, he, if_pos h6]
    · rw [wrapN (by omega)]; try rfl
    · have h4' : ¬ (!nameB x.Name) = true := by rw [h4]; simp
      have h5' : ¬ ((l.take k).any fun z => twinB z.Name x.Name) = true := by rw [h5]; simp
      have he : errAt TFeFuse.Name curveS l k = curveS k x := by rw [hat, if_neg h4', if_neg h5']
      have h6 : curveS k x = 0 := by simpa using h6
      rw [← hn, hf, he, if_neg (by rw [h6]; simp)]
  · have : k = l.length := by simp at h3; omega
    rw [← hn, this, Nat.sub_self]; rfl)
def R53 (f : TFeFeeder) (i : Int) (x : TFeNode) (S : SpecF) (_Fr : FuncId → List AV → Nat → List AV → Prop) (_Sq : FuncId → List AV → List (List AV) → List (List AV) → Prop) (Q : AV → List (List AV) → Prop) : Prop :=
  ((i == (0 : Int)) = true → ((!(x.Name.toList == x.Name.toList && (x.Parent == (-1 : Int) && (x.Cable == (-1 : Int) && (x.Length == (0 : Int) && (x.Fuse == (-1 : Int) && (x.Loads0.Lo == (0 : Int) && (x.Loads0.Hi == (0 : Int) && true) && (x.Loads1.Lo == (0 : Int) && (x.Loads1.Hi == (0 : Int) && true) && (x.Loads2.Lo == (0 : Int) && (x.Loads2.Hi == (0 : Int) && true) && true)) && true))))))) = true → Q (AV.int .i64 (2 : Int)) []) ∧ ((!(x.Name.toList == x.Name.toList && (x.Parent == (-1 : Int) && (x.Cable == (-1 : Int) && (x.Length == (0 : Int) && (x.Fuse == (-1 : Int) && (x.Loads0.Lo == (0 : Int) && (x.Loads0.Hi == (0 : Int) && true) && (x.Loads1.Lo == (0 : Int) && (x.Loads1.Hi == (0 : Int) && true) && (x.Loads2.Lo == (0 : Int) && (x.Loads2.Hi == (0 : Int) && true) && true)) && true))))))) = false → Q (AV.int .i64 (0 : Int)) [])) ∧ ((i == (0 : Int)) = false → ∃ b2, S (43 : Nat) [AV.int .i64 x.Parent, AV.int .i64 (0 : Int), AV.int .i64 (IntKind.i64.wrap (i - (1 : Int)))] [] (AV.bool b2) [] ∧ ((!b2) = true → Q (AV.int .i64 (4 : Int)) []) ∧ ((!b2) = false → ∃ b6, S (43 : Nat) [AV.int .i64 x.Cable, AV.int .i64 (0 : Int), AV.int .i64 (IntKind.i64.wrap ((↑(List.map TFeCable.av f.Cables).length : Int) - (1 : Int)))] [] (AV.bool b6) [] ∧ ((!b6) = true → Q (AV.int .i64 (4 : Int)) []) ∧ ((!b6) = false → ∃ b10, S (43 : Nat) [AV.int .i64 x.Fuse, AV.int .i64 (-1 : Int), AV.int .i64 (IntKind.i64.wrap ((↑(List.map TFeFuse.av f.Fuses).length : Int) - (1 : Int)))] [] (AV.bool b10) [] ∧ ((!b10) = true → Q (AV.int .i64 (4 : Int)) []) ∧ ((!b10) = false → ∃ b14, S (43 : Nat) [AV.int .i64 x.Length, AV.int .i64 (1 : Int), AV.int .i64 (5000 : Int)] [] (AV.bool b14) [] ∧ ((!b14) = true → Q (AV.int .i64 (7 : Int)) []) ∧ ((!b14) = false → (11 : Nat) ≤ (11 : Nat) ∧ ∃ b19, S (102 : Nat) [AV.slc (3 : Nat) [x.Loads0.av, x.Loads1.av, x.Loads2.av], AV.fn (101 : Nat) [] []] [] (AV.bool b19) [] ∧ (b19 = true → Q (AV.int .i64 (7 : Int)) []) ∧ (b19 = false → Q (AV.int .i64 (0 : Int)) []))))))
theorem r53 (f : TFeFeeder) (i : Int) (x : TFeNode) (S : SpecF) (Fr : FuncId → List AV → Nat → List AV → Prop) (Sq : FuncId → List AV → List (List AV) → List (List AV) → Prop) (Q : AV → List (List AV) → Prop) : awpF Try.prog (mkS Try.prog S Fr Sq ⟨[], [], [], [], []⟩ 0) 0 ⟨[0, 1, 2, 3, 5, 6, 7, 9, 14, 15, 42], [], [], []⟩ Try.f53 [f.av, .int .i64 i, x.av] [] Q = R53 f i x S Fr Sq Q := by kernel_rfl
theorem s53 (f : TFeFeeder) (i : Int) (x : TFeNode) (v : AV) (O : List (List AV)) (h : R53 f i x (SpecOf Try.prog) (FreshOf Try.prog) (SeqOf Try.prog) (fun r O' => r = v ∧ O' = O)) : SpecOf Try.prog 53 [f.av, .int .i64 i, x.av] [] v O :=
  spec_by (boxes := []) mixed (by exact trivial) Try.func53 Try.call53 rfl rfl rfl (Nat.le_of_ble_eq_true rfl) (r53 f i x (SpecOf Try.prog) (FreshOf Try.prog) (SeqOf Try.prog) _) h
theorem c53 (f : TFeFeeder) (i : Nat) (x : TFeNode) (h1 : f.Cables.length ≤ 1000000) (h2 : f.Fuses.length ≤ 1000000) (h3 : i ≤ 1000000) : Sp 53 [f.av, .int .i64 i, x.av] [] (.int .i64 (nodeS f.Cables.length f.Fuses.length i x)) [] := s53 f i x _ _ (by
  unfold R53
  simp only [List.length_map]
  have hb : (x.Name.toList == x.Name.toList && (x.Parent == (-1 : Int) && (x.Cable == (-1 : Int) && (x.Length == (0 : Int) && (x.Fuse == (-1 : Int) && (x.Loads0.Lo == (0 : Int) && (x.Loads0.Hi == (0 : Int) && true) && (x.Loads1.Lo == (0 : Int) && (x.Loads1.Hi == (0 : Int) && true) && (x.Loads2.Lo == (0 : Int) && (x.Loads2.Hi == (0 : Int) && true) && true)) && true)))))) = blankB x := by
    simp only [beq_self_eq_true, Bool.true_and, Bool.and_true, blankB, zE]
  rw [hb]
  refine ⟨fun h0 => ?_, fun h0 => ?_⟩
  · have h0 : i = 0 := by simp at h0; omega
    subst h0
    refine ⟨fun h => ⟨?_, trivial⟩, fun h => ⟨?_, trivial⟩⟩ <;> simp_all [nodeS]
  · have h0 : i ≠ 0 := by simp at h0; omega
    have e1 : IntKind.i64.wrap ((i : Int) - 1) = (i : Int) - 1 := i64 (by omega)
    have e2 : IntKind.i64.wrap ((f.Cables.length : Int) - 1) = (f.Cables.length : Int) - 1 := i64 (by omega)
    have e3 : IntKind.i64.wrap ((f.Fuses.length : Int) - 1) = (f.Fuses.length : Int) - 1 := i64 (by omega)
    rw [e1, e2, e3]
    refine ⟨_, c43 _ _ _, fun g1 => ⟨?_, trivial⟩, fun g1 => ⟨_, c43 _ _ _, fun g2 => ⟨?_, trivial⟩, fun g2 => ⟨_, c43 _ _ _, fun g3 => ⟨?_, trivial⟩, fun g3 => ⟨_, c43 _ _ _, fun g4 => ⟨?_, trivial⟩, fun g4 => ⟨by omega, _, c102 [x.Loads0, x.Loads1, x.Loads2] (Nat.le_of_ble_eq_true rfl), fun g5 => ⟨?_, trivial⟩, fun g5 => ⟨?_, trivial⟩⟩⟩⟩⟩⟩ <;> rw [nodeS, if_neg h0] <;> simp only [Bool.not_eq_true', Bool.not_eq_false'] at g1 <;> (try simp only [Bool.not_eq_true', Bool.not_eq_false'] at g2) <;> (try simp only [Bool.not_eq_true', Bool.not_eq_false'] at g3) <;> (try simp only [Bool.not_eq_true', Bool.not_eq_false'] at g4) <;> simp only [*] <;> rfl)
def R52 (i : Int) (x : TFeNode) (v0 : TFeFeeder) (S : SpecF) (_Fr : FuncId → List AV → Nat → List AV → Prop) (_Sq : FuncId → List AV → List (List AV) → List (List AV) → Prop) (Q : AV → List (List AV) → Prop) : Prop :=
  ∃ n0, S (53 : Nat) [v0.av, AV.int .i64 i, x.av] [] (AV.int .i64 n0) [] ∧ Q (AV.int .i64 n0) [v0.cs]
theorem r52 (i : Int) (x : TFeNode) (v0 : TFeFeeder) (S : SpecF) (Fr : FuncId → List AV → Nat → List AV → Prop) (Sq : FuncId → List AV → List (List AV) → List (List AV) → Prop) (Q : AV → List (List AV) → Prop) : awpF Try.prog (mkS Try.prog S Fr Sq ⟨[], [], [], [], []⟩ 0) 1 ⟨[0, 1, 2, 4, 5], [], [], []⟩ Try.f52 [.int .i64 i, x.av, .ref 0 0] [⟨28, false, v0.cs⟩] Q = R52 i x v0 S Fr Sq Q := by kernel_rfl
theorem s52 (i : Int) (x : TFeNode) (v0 : TFeFeeder) (v : AV) (O : List (List AV)) (h : R52 i x v0 (SpecOf Try.prog) (FreshOf Try.prog) (SeqOf Try.prog) (fun r O' => r = v ∧ O' = O)) : SpecOf Try.prog 52 [.int .i64 i, x.av, .ref 0 0] [v0.cs] v O :=
  spec_by (boxes := [⟨28, false, v0.cs⟩]) mixed (by exact trivial) Try.func52 Try.call52 rfl rfl rfl (Nat.le_of_ble_eq_true rfl) (r52 i x v0 (SpecOf Try.prog) (FreshOf Try.prog) (SeqOf Try.prog) _) h
theorem c52 (i : Nat) (x : TFeNode) (f : TFeFeeder) (h1 : f.Cables.length ≤ 1000000) (h2 : f.Fuses.length ≤ 1000000) (h3 : i ≤ 1000000) : Sp 52 [.int .i64 i, x.av, .ref 0 0] [f.cs] (.int .i64 (nodeS f.Cables.length f.Fuses.length i x)) [f.cs] := s52 i x f _ _ ⟨_, c53 f i x h1 h2 h3, rfl, rfl⟩
def R50 (l : List TFeNode) (rest0 : TFeFeeder) (S : SpecF) (_Fr : FuncId → List AV → Nat → List AV → Prop) (_Sq : FuncId → List AV → List (List AV) → List (List AV) → Prop) (Q : AV → List (List AV) → Prop) : Prop :=
  ∃ (I0 : Nat → List AV → Prop), (∃ m2, I0 m2 [AV.int .i64 (0 : Int), rest0.av]) ∧ ∀ (m2 : Nat) (n3 : Int) (es4 es5 es6 : List AV) (n7 n8 n9 n10 n11 n12 : Int), I0 m2 [AV.int .i64 n3, AV.agg [AV.slc (3 : Nat) es4, AV.slc (3 : Nat) es5, AV.slc (3 : Nat) es6, AV.int .i64 n7, AV.int .i64 n8, AV.int .i64 n9, AV.int .i64 n10, AV.int .i64 n11, AV.int .i64 n12]] → (decide (n3 < (↑(List.map TFeNode.av l).length : Int)) = true → ∃ s16 n17 n18 n19 n20 n21 n22 n23 n24 n25 n26, ((0 : Int) ≤ n3 ∧ (11 : Nat) = (11 : Nat) ∧ (List.map TFeNode.av l)[n3.toNat]? = some (AV.agg [AV.str s16, AV.int .i64 n17, AV.int .i64 n18, AV.int .i64 n19, AV.int .i64 n20, AV.int .i64 n21, AV.int .i64 n22, AV.int .i64 n23, AV.int .i64 n24, AV.int .i64 n25, AV.int .i64 n26])) ∧ ∃ s28, S (51 : FuncId) [AV.agg [AV.str s16, AV.int .i64 n17, AV.int .i64 n18, AV.int .i64 n19, AV.int .i64 n20, AV.int .i64 n21, AV.int .i64 n22, AV.int .i64 n23, AV.int .i64 n24, AV.int .i64 n25, AV.int .i64 n26]] [] (AV.str s28) [] ∧ ∃ b30, S (93 : Nat) [AV.str s28] [] (AV.bool b30) [] ∧ ((!b30) = true → Q (AV.tup [AV.int .i64 n3, AV.int .i64 (6 : Int)]) [[AV.slc (3 : Nat) es4, AV.slc (3 : Nat) es5, AV.slc (3 : Nat) es6, AV.int .i64 n7, AV.int .i64 n8, AV.int .i64 n9, AV.int .i64 n10, AV.int .i64 n11, AV.int .i64 n12]]) ∧ ((!b30) = false → ((0 : Int) ≤ n3 ∧ n3 ≤ (↑(List.map TFeNode.av l).length : Int)) ∧ ∃ b35, S (100 : Nat) [AV.slc (3 : Nat) (List.take n3.toNat (List.map TFeNode.av l)), AV.fn (99 : Nat) [] [AV.ref (0 : Nat) (0 : Nat), AV.ref (1 : Nat) (0 : Nat)]] [[AV.fn (51 : FuncId) [] []], [AV.str s16, AV.int .i64 n17, AV.int .i64 n18, AV.int .i64 n19, AV.int .i64 n20, AV.int .i64 n21, AV.int .i64 n22, AV.int .i64 n23, AV.int .i64 n24, AV.int .i64 n25, AV.int .i64 n26]] (AV.bool b35) [[AV.fn (51 : FuncId) [] []], [AV.str s16, AV.int .i64 n17, AV.int .i64 n18, AV.int .i64 n19, AV.int .i64 n20, AV.int .i64 n21, AV.int .i64 n22, AV.int .i64 n23, AV.int .i64 n24, AV.int .i64 n25, AV.int .i64 n26]] ∧ (b35 = true → Q (AV.tup [AV.int .i64 n3, AV.int .i64 (5 : Int)]) [[AV.slc (3 : Nat) es4, AV.slc (3 : Nat) es5, AV.slc (3 : Nat) es6, AV.int .i64 n7, AV.int .i64 n8, AV.int .i64 n9, AV.int .i64 n10, AV.int .i64 n11, AV.int .i64 n12]]) ∧ (b35 = false → ∃ n39 es40 es41 es42 n43 n44 n45 n46 n47 n48, S (52 : FuncId) [AV.int .i64 n3, AV.agg [AV.str s16, AV.int .i64 n17, AV.int .i64 n18, AV.int .i64 n19, AV.int .i64 n20, AV.int .i64 n21, AV.int .i64 n22, AV.int .i64 n23, AV.int .i64 n24, AV.int .i64 n25, AV.int .i64 n26], AV.ref (0 : Nat) (0 : Nat)] [[AV.slc (3 : Nat) es4, AV.slc (3 : Nat) es5, AV.slc (3 : Nat) es6, AV.int .i64 n7, AV.int .i64 n8, AV.int .i64 n9, AV.int .i64 n10, AV.int .i64 n11, AV.int .i64 n12]] (AV.int .i64 n39) [[AV.slc (3 : Nat) es40, AV.slc (3 : Nat) es41, AV.slc (3 : Nat) es42, AV.int .i64 n43, AV.int .i64 n44, AV.int .i64 n45, AV.int .i64 n46, AV.int .i64 n47, AV.int .i64 n48]] ∧ ((n39 != (0 : Int)) = true → Q (AV.tup [AV.int .i64 n3, AV.int .i64 n39]) [[AV.slc (3 : Nat) es40, AV.slc (3 : Nat) es41, AV.slc (3 : Nat) es42, AV.int .i64 n43, AV.int .i64 n44, AV.int .i64 n45, AV.int .i64 n46, AV.int .i64 n47, AV.int .i64 n48]]) ∧ ((n39 != (0 : Int)) = false → [AV.fn (51 : FuncId) [] []] = [AV.fn (51 : FuncId) [] []] ∧ ∃ k53, k53 < m2 ∧ I0 k53 [AV.int .i64 (IntKind.i64.wrap (n3 + (1 : Int))), AV.agg [AV.slc (3 : Nat) es40, AV.slc (3 : Nat) es41, AV.slc (3 : Nat) es42, AV.int .i64 n43, AV.int .i64 n44, AV.int .i64 n45, AV.int .i64 n46, AV.int .i64 n47, AV.int .i64 n48]])))) ∧ (decide (n3 < (↑(List.map TFeNode.av l).length : Int)) = false → Q (AV.tup TEncl.zero.cs) [[AV.slc (3 : Nat) es4, AV.slc (3 : Nat) es5, AV.slc (3 : Nat) es6, AV.int .i64 n7, AV.int .i64 n8, AV.int .i64 n9, AV.int .i64 n10, AV.int .i64 n11, AV.int .i64 n12]])
theorem r50 (l : List TFeNode) (rest0 : TFeFeeder) (S : SpecF) (Fr : FuncId → List AV → Nat → List AV → Prop) (Sq : FuncId → List AV → List (List AV) → List (List AV) → Prop) (Q : AV → List (List AV) → Prop) : awpF Try.prog (mkS Try.prog S Fr Sq ⟨[], [], [100, 99], [], []⟩ 0) 1 ⟨[0, 1, 2, 4, 6, 7, 8, 9, 10, 11, 12, 13, 14, 15, 20, 27, 39], [⟨2, [(14, .int .i64 0)], [], [(1000000, .agg [.slc 3 [], .slc 3 [], .slc 3 [], .int .i64 0, .int .i64 0, .int .i64 0, .int .i64 0, .int .i64 0, .int .i64 0])], [], []⟩], [], []⟩ Try.f50 [.slc 3 (List.map TFeNode.av l), .fn 51 [] [], .fn 52 [] [.ref 0 0]] [⟨28, false, rest0.cs⟩] Q = R50 l rest0 S Fr Sq Q := by kernel_rfl
theorem s50 (l : List TFeNode) (rest0 : TFeFeeder) (v : AV) (O : List (List AV)) (h : R50 l rest0 (SpecOf Try.prog) (FreshOf Try.prog) (SeqOf Try.prog) (fun r O' => r = v ∧ O' = O)) : SpecOf Try.prog 50 [.slc 3 (List.map TFeNode.av l), .fn 51 [] [], .fn 52 [] [.ref 0 0]] [rest0.cs] v O :=
  spec_by (boxes := [⟨28, false, rest0.cs⟩]) mixed (by exact trivial) Try.func50 Try.call50 rfl rfl rfl (Nat.le_of_ble_eq_true rfl) (r50 l rest0 (SpecOf Try.prog) (FreshOf Try.prog) (SeqOf Try.prog) _) h
theorem c50 (l : List TFeNode) (f : TFeFeeder) (h1 : f.Cables.length ≤ 1000000) (h2 : f.Fuses.length ≤ 1000000) (hl : l.length ≤ 1000) (hnm : ∀ x ∈ l, x.Name.size ≤ 9223372036854775807) : Sp 50 [.slc 3 (List.map TFeNode.av l), .fn 51 [] [], .fn 52 [] [.ref 0 0]] [f.cs] (.tup [.int .i64 (firstE (errAt TFeNode.Name (nodeS f.Cables.length f.Fuses.length) l) l.length 0).1, .int .i64 (firstE (errAt TFeNode.Name (nodeS f.Cables.length f.Fuses.length) l) l.length 0).2]) [f.cs] := s50 l f _ _ (by
  refine ⟨fun m vs => ∃ n : Nat, vs = [.int .i64 n, f.av] ∧ n ≤ l.length ∧ m = l.length - n ∧ firstE (errAt TFeNode.Name (nodeS f.Cables.length f.Fuses.length) l) (l.length - n) n = firstE (errAt TFeNode.Name (nodeS f.Cables.length f.Fuses.length) l) l.length 0, ⟨_, 0, rfl, by omega, rfl, rfl⟩, ?_⟩
  intro m n e1 e2 e3 m1 m2 m3 m4 m5 m6
  rintro ⟨k, hk, hle, rfl, hn⟩
  cases hk
  refine ⟨fun h3 => ?_, fun h3 => ⟨?_, rfl⟩⟩
  · have h3 : k < l.length := by simpa using h3
    obtain ⟨x, hx, hx'⟩ := map_getN (f := TFeNode.av) h3
    have hat := errAt_some (nm := TFeNode.Name) (rest := (nodeS f.Cables.length f.Fuses.length)) hx
    have hf := firstE_at (e := errAt TFeNode.Name (nodeS f.Cables.length f.Fuses.length) l) h3
    have hmem : x ∈ l := List.mem_of_getElem? hx
    have htake : List.take (k : Int).toNat (List.map TFeNode.av l) = List.map TFeNode.av (l.take k) := by rw [Int.toNat_natCast, List.map_take]
    refine ⟨x.Name, x.Parent, x.Cable, x.Length, x.Fuse, x.Loads0.Lo, x.Loads0.Hi, x.Loads1.Lo, x.Loads1.Hi, x.Loads2.Lo, x.Loads2.Hi, ⟨by omega, rfl, hx'⟩, _, c51 x, _, c93 _ (hnm x hmem), fun h4 => ⟨?_, rfl⟩, fun h4 => ⟨⟨by omega, by simp; omega⟩, ((l.take k).any fun z => twinB z.Name x.Name), (by rw [htake]; exact c100 (l.take k) x (by rw [List.length_take]; omega)), fun h5 => ⟨?_, rfl⟩, fun h5 => ⟨_, List.map TFeCable.av f.Cables, List.map TFeFuse.av f.Fuses, List.map TFeNode.av f.Nodes, f.Volts.Lo, f.Volts.Hi, f.Source.Lo, f.Source.Hi, f.Drop, f.Limit, c52 k x f h1 h2 (by omega), fun h6 => ⟨?_, rfl⟩, fun h6 => ⟨rfl, _, (by omega : l.length - (k + 1) < l.length - k), k + 1, ?_, by omega, rfl, ?_⟩⟩⟩⟩
    · have he : errAt TFeNode.Name (nodeS f.Cables.length f.Fuses.length) l k = 6 := by rw [hat, if_pos h4]
      rw [← hn, hf, he]; rfl
    · have h4' : ¬ (!nameB x.Name) = true := by rw [h4]; simp
      have he : errAt TFeNode.Name (nodeS f.Cables.length f.Fuses.length) l k = 5 := by rw [hat, if_neg h4', if_pos h5]
      rw [← hn, hf, he]; rfl
    · have h4' : ¬ (!nameB x.Name) = true := by rw [h4]; simp
      have h5' : ¬ ((l.take k).any fun z => twinB z.Name x.Name) = true := by rw [h5]; simp
      have he : errAt TFeNode.Name (nodeS f.Cables.length f.Fuses.length) l k = (nodeS f.Cables.length f.Fuses.length) k x := by rw [hat, if_neg h4', if_neg h5']
      have h6 : (nodeS f.Cables.length f.Fuses.length) k x ≠ 0 := by simpa using h6
      rw [← hn, hf, he, if_pos h6]
    · rw [wrapN (by omega)]; try rfl
    · have h4' : ¬ (!nameB x.Name) = true := by rw [h4]; simp
      have h5' : ¬ ((l.take k).any fun z => twinB z.Name x.Name) = true := by rw [h5]; simp
      have he : errAt TFeNode.Name (nodeS f.Cables.length f.Fuses.length) l k = (nodeS f.Cables.length f.Fuses.length) k x := by rw [hat, if_neg h4', if_neg h5']
      have h6 : (nodeS f.Cables.length f.Fuses.length) k x = 0 := by simpa using h6
      rw [← hn, hf, he, if_neg (by rw [h6]; simp)]
  · have : k = l.length := by simp at h3; omega
    rw [← hn, this, Nat.sub_self]; rfl)
def NOK (f : TFeFeeder) : Prop := (∀ x ∈ f.Cables, x.Name.size ≤ 9223372036854775807) ∧ (∀ x ∈ f.Fuses, x.Name.size ≤ 9223372036854775807) ∧ (∀ x ∈ f.Nodes, x.Name.size ≤ 9223372036854775807)
def tup3 (r : Int × Int × Int) : AV := .tup [.int .i64 r.1, .int .i64 r.2.1, .int .i64 r.2.2]
def R15 (f : TFeFeeder) (S : SpecF) (_Fr : FuncId → List AV → Nat → List AV → Prop) (_Sq : FuncId → List AV → List (List AV) → List (List AV) → Prop) (Q : AV → List (List AV) → Prop) : Prop :=
  (decide ((↑(List.map TFeCable.av f.Cables).length : Int) > (10 : Int)) = true → Q (AV.tup [AV.int .i64 (0 : Int), AV.int .i64 (0 : Int), AV.int .i64 (3 : Int)]) []) ∧ (decide ((↑(List.map TFeCable.av f.Cables).length : Int) > (10 : Int)) = false → (decide ((↑(List.map TFeFuse.av f.Fuses).length : Int) > (10 : Int)) = true → Q (AV.tup [AV.int .i64 (0 : Int), AV.int .i64 (0 : Int), AV.int .i64 (3 : Int)]) []) ∧ (decide ((↑(List.map TFeFuse.av f.Fuses).length : Int) > (10 : Int)) = false → (decide ((↑(List.map TFeNode.av f.Nodes).length : Int) > (40 : Int)) = true → Q (AV.tup [AV.int .i64 (0 : Int), AV.int .i64 (0 : Int), AV.int .i64 (3 : Int)]) []) ∧ (decide ((↑(List.map TFeNode.av f.Nodes).length : Int) > (40 : Int)) = false → (((↑(List.map TFeNode.av f.Nodes).length : Int) == (0 : Int)) = true → Q (AV.tup [AV.int .i64 (0 : Int), AV.int .i64 (0 : Int), AV.int .i64 (4 : Int)]) []) ∧ (((↑(List.map TFeNode.av f.Nodes).length : Int) == (0 : Int)) = false → ∃ b8, S (42 : Nat) [f.Volts.av, AV.int .i64 (1 : Int), AV.int .i64 (1000000 : Int)] [] (AV.bool b8) [] ∧ ((!b8) = true → Q (AV.tup [AV.int .i64 (0 : Int), AV.int .i64 (0 : Int), AV.int .i64 (7 : Int)]) []) ∧ ((!b8) = false → ∃ b12, S (42 : Nat) [f.Source.av, AV.int .i64 (1 : Int), AV.int .i64 (1000000000 : Int)] [] (AV.bool b12) [] ∧ ((!b12) = true → Q (AV.tup [AV.int .i64 (0 : Int), AV.int .i64 (0 : Int), AV.int .i64 (7 : Int)]) []) ∧ ((!b12) = false → ∃ b16, S (43 : Nat) [AV.int .i64 f.Drop, AV.int .i64 (0 : Int), AV.int .i64 (1000000 : Int)] [] (AV.bool b16) [] ∧ ((!b16) = true → Q (AV.tup [AV.int .i64 (0 : Int), AV.int .i64 (0 : Int), AV.int .i64 (7 : Int)]) []) ∧ ((!b16) = false → ∃ b20, S (43 : Nat) [AV.int .i64 f.Limit, AV.int .i64 (1 : Int), AV.int .i64 (100000000 : Int)] [] (AV.bool b20) [] ∧ ((!b20) = true → Q (AV.tup [AV.int .i64 (0 : Int), AV.int .i64 (0 : Int), AV.int .i64 (7 : Int)]) []) ∧ ((!b20) = false → ∃ n24 n25, S (44 : Nat) [AV.slc (3 : Nat) (List.map TFeCable.av f.Cables), AV.fn (45 : Nat) [] [], AV.fn (46 : Nat) [] []] [] (AV.tup [AV.int .i64 n24, AV.int .i64 n25]) [] ∧ ((n25 != (0 : Int)) = true → Q (AV.tup [AV.int .i64 (1 : Int), AV.int .i64 n24, AV.int .i64 n25]) []) ∧ ((n25 != (0 : Int)) = false → ∃ n29 n30, S (47 : Nat) [AV.slc (3 : Nat) (List.map TFeFuse.av f.Fuses), AV.fn (48 : Nat) [] [], AV.fn (49 : Nat) [] []] [] (AV.tup [AV.int .i64 n29, AV.int .i64 n30]) [] ∧ ((n30 != (0 : Int)) = true → Q (AV.tup [AV.int .i64 (2 : Int), AV.int .i64 n29, AV.int .i64 n30]) []) ∧ ((n30 != (0 : Int)) = false → ∃ n34 n35 es36 es37 es38 n39 n40 n41 n42 n43 n44, S (50 : Nat) [AV.slc (3 : Nat) (List.map TFeNode.av f.Nodes), AV.fn (51 : Nat) [] [], AV.fn (52 : Nat) [] [AV.ref (0 : Nat) (0 : Nat)]] [f.cs] (AV.tup [AV.int .i64 n34, AV.int .i64 n35]) [[AV.slc (3 : Nat) es36, AV.slc (3 : Nat) es37, AV.slc (3 : Nat) es38, AV.int .i64 n39, AV.int .i64 n40, AV.int .i64 n41, AV.int .i64 n42, AV.int .i64 n43, AV.int .i64 n44]] ∧ ((n35 != (0 : Int)) = true → Q (AV.tup [AV.int .i64 (3 : Int), AV.int .i64 n34, AV.int .i64 n35]) []) ∧ ((n35 != (0 : Int)) = false → Q (AV.tup TFeFault.zero.cs) [])))))))))))
theorem r15 (f : TFeFeeder) (S : SpecF) (Fr : FuncId → List AV → Nat → List AV → Prop) (Sq : FuncId → List AV → List (List AV) → List (List AV) → Prop) (Q : AV → List (List AV) → Prop) : awpF Try.prog (mkS Try.prog S Fr Sq ⟨[], [], [], [], []⟩ 0) 0 ⟨[0, 1, 2, 3, 4, 5, 22, 27, 57, 67, 78], [], [], []⟩ Try.f15 [f.av] [] Q = R15 f S Fr Sq Q := by kernel_rfl
theorem s15 (f : TFeFeeder) (v : AV) (O : List (List AV)) (h : R15 f (SpecOf Try.prog) (FreshOf Try.prog) (SeqOf Try.prog) (fun r O' => r = v ∧ O' = O)) : SpecOf Try.prog 15 [f.av] [] v O :=
  spec_by (boxes := []) mixed (by exact trivial) Try.func15 Try.call15 rfl rfl rfl (Nat.le_of_ble_eq_true rfl) (r15 f (SpecOf Try.prog) (FreshOf Try.prog) (SeqOf Try.prog) _) h
theorem c15 (f : TFeFeeder) (hn : NOK f) : Sp 15 [f.av] [] (tup3 (checkF f)) [] := s15 f _ _ (by
  unfold R15
  simp only [List.length_map]
  refine ⟨fun h1 => ⟨?_, trivial⟩, fun h1 => ⟨fun h2 => ⟨?_, trivial⟩, fun h2 => ⟨fun h3 => ⟨?_, trivial⟩, fun h3 => ?_⟩⟩⟩
  · rw [checkF, if_pos (.inl (by simp at h1; omega))]; rfl
  · rw [checkF, if_pos (.inr (.inl (by simp at h2; omega)))]; rfl
  · rw [checkF, if_pos (.inr (.inr (by simp at h3; omega)))]; rfl
  have h1 : f.Cables.length ≤ 10 := by simp at h1; omega
  have h2 : f.Fuses.length ≤ 10 := by simp at h2; omega
  have h3 : f.Nodes.length ≤ 40 := by simp at h3; omega
  have hl : ¬ (10 < f.Cables.length ∨ 10 < f.Fuses.length ∨ 40 < f.Nodes.length) := by omega
  refine ⟨fun h4 => ⟨?_, trivial⟩, fun h4 => ?_⟩
  · rw [checkF, if_neg hl, if_pos (by simp at h4; simp [h4])]; rfl
  have h4 : ¬ f.Nodes.length = 0 := by simp at h4; simp [h4]
  refine ⟨_, c42 _ _ _, fun h5 => ⟨?_, trivial⟩, fun h5 => ⟨_, c42 _ _ _, fun h6 => ⟨?_, trivial⟩, fun h6 => ⟨_, c43 _ _ _, fun h7 => ⟨?_, trivial⟩, fun h7 => ⟨_, c43 _ _ _, fun h8 => ⟨?_, trivial⟩, fun h8 => ?_⟩⟩⟩⟩
  · rw [checkF, if_neg hl, if_neg h4, if_pos (by simp_all)]; rfl
  · rw [checkF, if_neg hl, if_neg h4, if_pos (by simp_all)]; rfl
  · rw [checkF, if_neg hl, if_neg h4, if_pos (by simp_all)]; rfl
  · rw [checkF, if_neg hl, if_neg h4, if_pos (by simp_all)]; rfl
  have h9 : ¬ (!(wiB f.Volts 1 1000000 && wiB f.Source 1 1000000000 && inB f.Drop 0 1000000 && inB f.Limit 1 100000000)) = true := by simp_all
  obtain ⟨n1, n2, n3⟩ := hn
  refine ⟨_, _, c44 f.Cables (by omega) n1, fun g1 => ⟨?_, trivial⟩, fun g1 => ⟨_, _, c47 f.Fuses (by omega) n2, fun g2 => ⟨?_, trivial⟩, fun g2 => ⟨_, _, List.map TFeCable.av f.Cables, List.map TFeFuse.av f.Fuses, List.map TFeNode.av f.Nodes, f.Volts.Lo, f.Volts.Hi, f.Source.Lo, f.Source.Hi, f.Drop, f.Limit, c50 f.Nodes f (by omega) (by omega) (by omega) n3, fun g3 => ⟨?_, trivial⟩, fun g3 => ⟨?_, trivial⟩⟩⟩⟩ <;>
    rw [checkF, if_neg hl, if_neg h4, if_neg h9] <;> simp only [bne_iff_ne, ne_eq, bne_eq_false_iff_eq] at g1
  · simp only [ne_eq, g1, not_false_eq_true, if_true]; rfl
  · simp only [bne_iff_ne, ne_eq] at g2
    simp only [ne_eq, g1, g2, not_true_eq_false, not_false_eq_true, if_true, if_false]; rfl
  · simp only [bne_iff_ne, ne_eq, bne_eq_false_iff_eq] at g2 g3
    simp only [ne_eq, g1, g2, g3, not_true_eq_false, not_false_eq_true, if_true, if_false]; rfl
  · simp only [bne_iff_ne, ne_eq, bne_eq_false_iff_eq] at g2 g3
    simp only [ne_eq, g1, g2, g3, not_true_eq_false, if_false]; rfl)
end Go.Proofs.Ytbdbnpnichkcjaa
namespace Go.Proofs.Ytbdbnpnichkcjaa
open Go.RowKit
theorem ww (x y : Int) : IntKind.i64.wrap (IntKind.i64.wrap x + y) = IntKind.i64.wrap (x + y) := by
  rw [IntKind.wrap_i64, IntKind.wrap_i64, IntKind.wrap_i64]; omega
def sumTo (g : Nat → Int) : Nat → Int
  | 0 => 0
  | n + 1 => sumTo g n + g n
theorem sumTo_congr {g h : Nat → Int} {n : Nat} (e : ∀ i, i < n → g i = h i) : sumTo g n = sumTo h n := by
  induction n with
  | zero => rfl
  | succ n ih => simp only [sumTo]; rw [ih fun i hi => e i (by omega), e n (by omega)]
theorem sumTo_add {g h : Nat → Int} {n : Nat} : sumTo (fun i => g i + h i) n = sumTo g n + sumTo h n := by
  induction n with
  | zero => rfl
  | succ n ih => simp only [sumTo]; rw [ih]; omega
theorem sumTo_zero {n : Nat} : sumTo (fun _ => 0) n = 0 := by
  induction n with
  | zero => rfl
  | succ n ih => simp only [sumTo]; rw [ih]; rfl
theorem sumTo_swap {g : Nat → Nat → Int} {n m : Nat} : sumTo (fun i => sumTo (g i) m) n = sumTo (fun j => sumTo (fun i => g i j) n) m := by
  induction n with
  | zero => simp only [sumTo]; exact sumTo_zero.symm
  | succ n ih => simp only [sumTo]; rw [ih, ← sumTo_add]
theorem sumTo_if {a n : Nat} {c : Int} (h : a < n) : sumTo (fun i => if i = a then c else 0) n = c := by
  induction n with
  | zero => omega
  | succ n ih =>
    simp only [sumTo]
    by_cases ha : n = a
    · subst ha
      rw [if_pos rfl, sumTo_congr (h := fun _ => 0) fun i hi => if_neg (by omega), sumTo_zero]; omega
    · rw [if_neg ha, ih (by omega)]; omega
theorem sumTo_bound {g : Nat → Int} {n : Nat} {B : Int} (h : ∀ i, i < n → 0 ≤ g i ∧ g i ≤ B) : 0 ≤ sumTo g n ∧ sumTo g n ≤ n * B := by
  induction n with
  | zero => simp [sumTo]
  | succ n ih =>
    have h1 := ih fun i hi => h i (by omega)
    have h2 := h n (by omega)
    simp only [sumTo]
    have : ((n + 1 : Nat) : Int) * B = n * B + B := by rw [Int.natCast_add, Int.add_mul]; omega
    omega
def nd (f : TFeFeeder) (i : Nat) : TFeNode := f.Nodes.getD i .zero
def par (f : TFeFeeder) (i : Nat) : Nat := (nd f i).Parent.toNat
def upF (f : TFeFeeder) : Nat → Nat → List Nat
  | 0, _ => []
  | k + 1, i => if i = 0 then [] else i :: upF f k (par f i)
def upL (f : TFeFeeder) (i : Nat) : List Nat := upF f i i
def anc (f : TFeFeeder) (a i : Nat) : Bool := (upL f i).contains a
def cur (f : TFeFeeder) (sel : TFeNode → Int) (a : Nat) : Int := sumTo (fun i => if anc f a i then sel (nd f i) else 0) f.Nodes.length
/-- What the check says of a feeder. -/
structure OK (f : TFeFeeder) : Prop where
  nc : f.Cables.length ≤ 10
  nf : f.Fuses.length ≤ 10
  nn : f.Nodes.length ≤ 40
  pos : 0 < f.Nodes.length
  volts : 1 ≤ f.Volts.Lo ∧ f.Volts.Lo ≤ f.Volts.Hi ∧ f.Volts.Hi ≤ 1000000
  source : 1 ≤ f.Source.Lo ∧ f.Source.Lo ≤ f.Source.Hi ∧ f.Source.Hi ≤ 1000000000
  drop : 0 ≤ f.Drop ∧ f.Drop ≤ 1000000
  limit : 1 ≤ f.Limit ∧ f.Limit ≤ 100000000
  cables : ∀ i, i < f.Cables.length → errAt TFeCable.Name cableS f.Cables i = 0
  fuses : ∀ i, i < f.Fuses.length → errAt TFeFuse.Name curveS f.Fuses i = 0
  nodes : ∀ i, i < f.Nodes.length → errAt TFeNode.Name (nodeS f.Cables.length f.Fuses.length) f.Nodes i = 0
theorem ok_of {f : TFeFeeder} (h : (checkF f).2.2 = 0) : OK f := by
  unfold checkF at h
  split at h
  · simp at h
  rename_i h1
  split at h
  · simp at h
  rename_i h2
  split at h
  · simp at h
  rename_i h3
  simp only [Bool.not_eq_true', Bool.not_eq_false, Bool.and_eq_true] at h3
  obtain ⟨⟨⟨h3, h4⟩, h5⟩, h6⟩ := h3
  dsimp only at h
  split at h
  · rename_i hh; exact absurd h hh
  rename_i h7
  split at h
  · rename_i hh; exact absurd h hh
  rename_i h8
  split at h
  · rename_i hh; exact absurd h hh
  rename_i h9
  simp only [ne_eq, Decidable.not_not] at h7 h8 h9
  have g3 := wiB_iff.1 h3; have g4 := wiB_iff.1 h4; have g5 := inB_iff.1 h5; have g6 := inB_iff.1 h6
  exact ⟨by omega, by omega, by omega, by omega, g3, g4, g5, g6, fun i hi => firstE_ok h7 i (by omega) (by omega), fun i hi => firstE_ok h8 i (by omega) (by omega), fun i hi => firstE_ok h9 i (by omega) (by omega)⟩
theorem errAt_rest {α : Type} {nm : α → ByteArray} {rest : Nat → α → Int} {l : List α} {i : Nat} {x : α} (hx : l[i]? = some x) (h : errAt nm rest l i = 0) : rest i x = 0 := by
  rw [errAt_some hx] at h
  split at h
  · cases h
  · split at h
    · cases h
    · exact h
/-- What is said of a node that is not the source. -/
structure NodeOK (f : TFeFeeder) (i : Nat) : Prop where
  par : 0 ≤ (nd f i).Parent ∧ (nd f i).Parent ≤ (i : Int) - 1
  cable : 0 ≤ (nd f i).Cable ∧ (nd f i).Cable ≤ (f.Cables.length : Int) - 1
  fuse : -1 ≤ (nd f i).Fuse ∧ (nd f i).Fuse ≤ (f.Fuses.length : Int) - 1
  len : 1 ≤ (nd f i).Length ∧ (nd f i).Length ≤ 5000
  l0 : 0 ≤ (nd f i).Loads0.Lo ∧ (nd f i).Loads0.Lo ≤ (nd f i).Loads0.Hi ∧ (nd f i).Loads0.Hi ≤ 1000000
  l1 : 0 ≤ (nd f i).Loads1.Lo ∧ (nd f i).Loads1.Lo ≤ (nd f i).Loads1.Hi ∧ (nd f i).Loads1.Hi ≤ 1000000
  l2 : 0 ≤ (nd f i).Loads2.Lo ∧ (nd f i).Loads2.Lo ≤ (nd f i).Loads2.Hi ∧ (nd f i).Loads2.Hi ≤ 1000000
theorem nd_get {f : TFeFeeder} {i : Nat} (h : i < f.Nodes.length) : f.Nodes[i]? = some (nd f i) := by
  unfold nd; rw [List.getD, List.getElem?_eq_getElem h]; rfl
theorem node_ok {f : TFeFeeder} (hf : OK f) {i : Nat} (h : i < f.Nodes.length) (h0 : i ≠ 0) : NodeOK f i := by
  have h1 := errAt_rest (nd_get h) (hf.nodes i h)
  unfold nodeS at h1
  rw [if_neg h0] at h1
  split at h1
  · cases h1
  rename_i h2
  split at h1
  · cases h1
  rename_i h3
  simp only [Bool.not_eq_true', Bool.not_eq_false, Bool.and_eq_true] at h2
  simp only [Bool.not_eq_true, Bool.or_eq_false_iff, Bool.not_eq_false', List.any_cons, List.any_nil, wildE] at h3
  obtain ⟨⟨a1, a2⟩, a3⟩ := h2
  obtain ⟨b1, b2, b3, b4, _⟩ := h3
  exact ⟨inB_iff.1 a1, inB_iff.1 a2, inB_iff.1 a3, inB_iff.1 b1, wiB_iff.1 b2, wiB_iff.1 b3, wiB_iff.1 b4⟩
theorem blank_of {f : TFeFeeder} (hf : OK f) : blankB (nd f 0) = true := by
  have h1 := errAt_rest (nd_get hf.pos) (hf.nodes 0 hf.pos)
  unfold nodeS at h1
  rw [if_pos rfl] at h1
  split at h1
  · assumption
  · cases h1
theorem par_lt {f : TFeFeeder} (hf : OK f) {i : Nat} (h : i < f.Nodes.length) (h0 : i ≠ 0) : par f i < i ∧ ((par f i : Nat) : Int) = (nd f i).Parent := by
  have := (node_ok hf h h0).par
  unfold par; omega
theorem upF_fuel {f : TFeFeeder} (hf : OK f) : ∀ {k j i : Nat}, i ≤ k → i ≤ j → i < f.Nodes.length → upF f k i = upF f j i := by
  intro k
  induction k with
  | zero =>
    intro j i h1 h2 h3
    obtain rfl : i = 0 := by omega
    cases j with
    | zero => rfl
    | succ j => simp [upF]
  | succ k ih =>
    intro j i h1 h2 h3
    by_cases h0 : i = 0
    · subst h0
      cases j <;> simp [upF]
    cases j with
    | zero => omega
    | succ j =>
      simp only [upF, if_neg h0]
      have := (par_lt hf h3 h0).1
      rw [ih (j := j) (i := par f i) (by omega) (by omega) (by omega)]
theorem upL_zero {f : TFeFeeder} : upL f 0 = [] := rfl
theorem upL_succ {f : TFeFeeder} (hf : OK f) {i : Nat} (h : i < f.Nodes.length) (h0 : i ≠ 0) : upL f i = i :: upL f (par f i) := by
  have hp := (par_lt hf h h0).1
  obtain ⟨k, rfl⟩ : ∃ k, i = k + 1 := ⟨i - 1, by omega⟩
  unfold upL
  rw [upF, if_neg h0, upF_fuel hf (j := par f (k + 1)) (by omega) (by omega) (by omega)]
theorem anc_zero {f : TFeFeeder} {a : Nat} : anc f a 0 = false := rfl
theorem anc_succ {f : TFeFeeder} (hf : OK f) {a i : Nat} (h : i < f.Nodes.length) (h0 : i ≠ 0) : anc f a i = (decide (a = i) || anc f a (par f i)) := by
  unfold anc
  rw [upL_succ hf h h0, List.contains_cons]
  rfl
theorem anc_le {f : TFeFeeder} (hf : OK f) {a : Nat} : ∀ {i : Nat}, i < f.Nodes.length → anc f a i = true → a ≤ i ∧ a ≠ 0 := by
  intro i
  induction i using Nat.strongRecOn with
  | ind i ih =>
    intro h h1
    by_cases h0 : i = 0
    · subst h0; cases h1
    · rw [anc_succ hf h h0, Bool.or_eq_true, decide_eq_true_eq] at h1
      have hp := (par_lt hf h h0).1
      rcases h1 with h1 | h1
      · omega
      · have := ih _ hp (by omega) h1; omega
/-- A node behind another one is it, or behind just one of its children. -/
theorem anc_split {f : TFeFeeder} (hf : OK f) {a : Nat} (ha0 : a ≠ 0) (c : Int) : ∀ {i : Nat}, i < f.Nodes.length →
    (if anc f a i then c else 0) = (if i = a then c else 0) + sumTo (fun b => if b ≠ 0 ∧ par f b = a then (if anc f b i then c else 0) else 0) f.Nodes.length := by
  intro i
  induction i using Nat.strongRecOn with
  | ind i ih =>
    intro h
    by_cases h0 : i = 0
    · subst h0
      rw [anc_zero, if_neg (by simp), if_neg (fun e => ha0 e.symm), sumTo_congr (h := fun _ => 0) fun b _ => by simp [anc_zero], sumTo_zero]; rfl
    have hp := (par_lt hf h h0).1
    have hih := ih _ hp (by omega)
    have hsum : sumTo (fun b => if b ≠ 0 ∧ par f b = a then (if anc f b i then c else 0) else 0) f.Nodes.length =
        (if par f i = a then c else 0) + sumTo (fun b => if b ≠ 0 ∧ par f b = a then (if anc f b (par f i) then c else 0) else 0) f.Nodes.length := by
      rw [show (if par f i = a then c else 0) = sumTo (fun b => if b = i then (if par f i = a then c else 0) else 0) f.Nodes.length from (sumTo_if h).symm, ← sumTo_add]
      refine sumTo_congr fun b hb => ?_
      by_cases hbi : b = i
      · subst hbi
        have : anc f b (par f b) = false := by
          cases hh : anc f b (par f b) with
          | false => rfl
          | true => have := anc_le hf (by omega) hh; omega
        rw [anc_succ hf h h0, this]
        by_cases hpa : par f b = a <;> simp [hpa, h0]
      · rw [anc_succ hf h h0]
        simp [hbi]
    by_cases hai : a = i
    · subst hai
      have hno : anc f a (par f a) = false := by
        cases hh : anc f a (par f a) with
        | false => rfl
        | true => have := anc_le hf (by omega) hh; omega
      rw [anc_succ hf h h0, hsum]
      rw [hno, if_neg (by simp), if_neg (by omega)] at hih
      rw [if_neg (show ¬ par f a = a by omega), if_pos rfl, if_pos (by simp)]
      omega
    · rw [anc_succ hf h h0, hsum, if_neg (fun e : i = a => hai e.symm)]
      simp only [hai, decide_false, Bool.false_or]
      omega
/-- The currents of a cable: the loads of its node and the currents of the cables behind it. -/
theorem cur_split {f : TFeFeeder} (hf : OK f) {sel : TFeNode → Int} {a : Nat} (ha : a < f.Nodes.length) (ha0 : a ≠ 0) :
    cur f sel a = sel (nd f a) + sumTo (fun b => if b ≠ 0 ∧ par f b = a then cur f sel b else 0) f.Nodes.length := by
  unfold cur
  rw [sumTo_congr fun i hi => anc_split hf ha0 (sel (nd f i)) hi, sumTo_add, sumTo_swap]
  congr 1
  · rw [sumTo_congr (h := fun i => if i = a then sel (nd f a) else 0) fun i _ => by by_cases e : i = a <;> simp [e], sumTo_if ha]
  · refine sumTo_congr fun b _ => ?_
    by_cases e : b ≠ 0 ∧ par f b = a
    · simp only [if_pos e]
    · simp only [if_neg e]; exact sumTo_zero
theorem cur_bound {f : TFeFeeder} (hf : OK f) {sel : TFeNode → Int} (hs : ∀ i, i < f.Nodes.length → i ≠ 0 → 0 ≤ sel (nd f i) ∧ sel (nd f i) ≤ 1000000) (a : Nat) : 0 ≤ cur f sel a ∧ cur f sel a ≤ 40000000 := by
  have h := sumTo_bound (g := fun i => if anc f a i then sel (nd f i) else 0) (n := f.Nodes.length) (B := 1000000) fun i hi => by
    by_cases h0 : i = 0
    · subst h0; simp [anc_zero]
    · have := hs i hi h0
      split <;> omega
  have := hf.nn
  unfold cur
  omega
def adE (a b : TEncl) : TEncl := ⟨IntKind.i64.wrap (a.Lo + b.Lo), IntKind.i64.wrap (a.Hi + b.Hi)⟩
def six (a b c : TEncl) : List AV := [.int .i64 a.Lo, .int .i64 a.Hi, .int .i64 b.Lo, .int .i64 b.Hi, .int .i64 c.Lo, .int .i64 c.Hi]
def curE (f : TFeFeeder) (e : TFeNode → TEncl) (i : Nat) : TEncl := ⟨cur f (fun x => (e x).Lo) i, cur f (fun x => (e x).Hi) i⟩
def rootK (n : Int) : Nat → Int → Int
  | 0, r => r
  | k + 1, r => rootK n k (if (r + 2 ^ k) * (r + 2 ^ k) < n then r + 2 ^ k else r)
def rootS (n : Int) : Int := if rootK n 31 0 * rootK n 31 0 < n then rootK n 31 0 + 1 else rootK n 31 0
theorem rootK_spec {n : Int} : ∀ (k : Nat) (r : Int), 0 ≤ r → (r = 0 ∨ r * r < n) → n ≤ (r + 2 ^ k) * (r + 2 ^ k) → 0 ≤ rootK n k r ∧ (rootK n k r = 0 ∨ rootK n k r * rootK n k r < n) ∧ n ≤ (rootK n k r + 1) * (rootK n k r + 1) := by
  intro k
  induction k with
  | zero => intro r h0 h1 h2; simp only [rootK]; simp at h2; exact ⟨h0, h1, h2⟩
  | succ k ih =>
    intro r h0 h1 h2
    have hp : (0 : Int) < 2 ^ k := Int.pow_pos (by decide)
    simp only [rootK]
    split
    · rename_i h
      refine ih _ (by omega) (.inr h) ?_
      have e : r + 2 ^ k + 2 ^ k = r + 2 ^ (k + 1) := by rw [Int.pow_succ]; omega
      rw [e]; exact h2
    · rename_i h
      exact ih _ h0 h1 (by omega)
structure IsRoot (n r : Int) : Prop where
  nn : 0 ≤ r
  up : n ≤ r * r
  low : r = 0 ∨ (r - 1) * (r - 1) < n
theorem rootS_spec {n : Int} (h : n ≤ 4000000000000000000) : IsRoot n (rootS n) := by
  obtain ⟨h1, h2, h3⟩ := rootK_spec (n := n) 31 0 (Int.le_refl 0) (.inl rfl) (by simp; omega)
  unfold rootS
  split
  · rename_i h4
    exact ⟨by omega, h3, .inr (by rw [Int.add_sub_cancel]; exact h4)⟩
  · rename_i h4
    refine ⟨h1, by omega, ?_⟩
    rcases h2 with h2 | h2
    · exact .inl h2
    · exact absurd h2 h4
theorem sq_lt {a b : Int} (h0 : 0 ≤ a) (h : a * a < b * b) (hb : 0 ≤ b) : a < b := by
  rcases Int.lt_or_le a b with h' | h'
  · exact h'
  · have : b * b ≤ a * a := Int.mul_le_mul h' h' hb h0
    omega
theorem root_unique {n r s : Int} (hr : IsRoot n r) (hs : IsRoot n s) : r = s := by
  have key : ∀ {r s : Int}, IsRoot n r → IsRoot n s → r ≤ s := by
    intro r s hr hs
    rcases hr.low with h | h
    · have := hs.nn; omega
    · rcases Int.lt_or_le r 1 with h1 | h1
      · have := hs.nn; omega
      · have := sq_lt (a := r - 1) (b := s) (by omega) (by have := hs.up; omega) hs.nn
        omega
  exact Int.le_antisymm (key hr hs) (key hs hr)
def halfD (a b c : Int) : Int := ((a - b) * (a - b) + (b - c) * (b - c) + (c - a) * (c - a)) / 2
def most3 (a b m : Int) (x : TEncl) : Int := max (max m (halfD a b x.Lo)) (halfD a b x.Hi)
def most2 (a m : Int) (y z : TEncl) : Int := most3 a y.Hi (most3 a y.Lo m z) z
def mostS (x y z : TEncl) : Int := most2 x.Hi (most2 x.Lo 0 y z) y z
def neutS (x y z : TEncl) : Int := rootS (mostS x y z)
def phE (x y z : TEncl) (p : Int) : TEncl := if p = 0 then x else if p = 1 then y else z
end Go.Proofs.Ytbdbnpnichkcjaa

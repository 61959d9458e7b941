/- The plain functions of chapter 6: trees, currents, fuses, faults. -/
import Derived.Test.YtbdbnpnichkcjaaP
namespace Go.Proofs.Ytbdbnpnichkcjaa
open Go.RowKit
theorem ww (x y : Int) : IntKind.i64.wrap (IntKind.i64.wrap x + y) = IntKind.i64.wrap (x + y) := by
  rw [IntKind.wrap_i64, IntKind.wrap_i64, IntKind.wrap_i64]; omega
def sumTo (g : Nat → Int) : Nat → Int
  | 0 => 0
  | n + 1 => sumTo g n + g n
theorem sumTo_congr {g h : Nat → Int} {n : Nat} (e : ∀ i, i < n → g i = h i) : sumTo g n = sumTo h n := by
  induction n with
  | zero => rfl
  | succ n ih => simp only [sumTo]; rw [ih fun i hi => e i (by omega), e n (by omega)]
theorem sumTo_add {g h : Nat → Int} {n : Nat} : sumTo (fun i => g i + h i) n = sumTo g n + sumTo h n := by
  induction n with
  | zero => rfl
  | succ n ih => simp only [sumTo]; rw [ih]; omega
theorem sumTo_zero {n : Nat} : sumTo (fun _ => 0) n = 0 := by
  induction n with
  | zero => rfl
  | succ n ih => simp only [sumTo]; rw [ih]; rfl
theorem sumTo_swap {g : Nat → Nat → Int} {n m : Nat} : sumTo (fun i => sumTo (g i) m) n = sumTo (fun j => sumTo (fun i => g i j) n) m := by
  induction n with
  | zero => simp only [sumTo]; exact sumTo_zero.symm
  | succ n ih => simp only [sumTo]; rw [ih, ← sumTo_add]
theorem sumTo_if {a n : Nat} {c : Int} (h : a < n) : sumTo (fun i => if i = a then c else 0) n = c := by
  induction n with
  | zero => omega
  | succ n ih =>
    simp only [sumTo]
    by_cases ha : n = a
    · subst ha
      rw [if_pos rfl, sumTo_congr (h := fun _ => 0) fun i hi => if_neg (by omega), sumTo_zero]; omega
    · rw [if_neg ha, ih (by omega)]; omega
theorem sumTo_bound {g : Nat → Int} {n : Nat} {B : Int} (h : ∀ i, i < n → 0 ≤ g i ∧ g i ≤ B) : 0 ≤ sumTo g n ∧ sumTo g n ≤ n * B := by
  induction n with
  | zero => simp [sumTo]
  | succ n ih =>
    have h1 := ih fun i hi => h i (by omega)
    have h2 := h n (by omega)
    simp only [sumTo]
    have : ((n + 1 : Nat) : Int) * B = n * B + B := by rw [Int.natCast_add, Int.add_mul]; omega
    omega
def nd (f : TFeFeeder) (i : Nat) : TFeNode := f.Nodes.getD i .zero
def par (f : TFeFeeder) (i : Nat) : Nat := (nd f i).Parent.toNat
def upF (f : TFeFeeder) : Nat → Nat → List Nat
  | 0, _ => []
  | k + 1, i => if i = 0 then [] else i :: upF f k (par f i)
def upL (f : TFeFeeder) (i : Nat) : List Nat := upF f i i
def anc (f : TFeFeeder) (a i : Nat) : Bool := (upL f i).contains a
def cur (f : TFeFeeder) (sel : TFeNode → Int) (a : Nat) : Int := sumTo (fun i => if anc f a i then sel (nd f i) else 0) f.Nodes.length
/-- What the check says of a feeder. -/
structure OK (f : TFeFeeder) : Prop where
  nc : f.Cables.length ≤ 10
  nf : f.Fuses.length ≤ 10
  nn : f.Nodes.length ≤ 40
  pos : 0 < f.Nodes.length
  volts : 1 ≤ f.Volts.Lo ∧ f.Volts.Lo ≤ f.Volts.Hi ∧ f.Volts.Hi ≤ 1000000
  source : 1 ≤ f.Source.Lo ∧ f.Source.Lo ≤ f.Source.Hi ∧ f.Source.Hi ≤ 1000000000
  drop : 0 ≤ f.Drop ∧ f.Drop ≤ 1000000
  limit : 1 ≤ f.Limit ∧ f.Limit ≤ 100000000
  cables : ∀ i, i < f.Cables.length → errAt TFeCable.Name cableS f.Cables i = 0
  fuses : ∀ i, i < f.Fuses.length → errAt TFeFuse.Name curveS f.Fuses i = 0
  nodes : ∀ i, i < f.Nodes.length → errAt TFeNode.Name (nodeS f.Cables.length f.Fuses.length) f.Nodes i = 0
theorem ok_of {f : TFeFeeder} (h : (checkF f).2.2 = 0) : OK f := by
  unfold checkF at h
  split at h
  · simp at h
  rename_i h1
  split at h
  · simp at h
  rename_i h2
  split at h
  · simp at h
  rename_i h3
  simp only [Bool.not_eq_true', Bool.not_eq_false, Bool.and_eq_true] at h3
  obtain ⟨⟨⟨h3, h4⟩, h5⟩, h6⟩ := h3
  dsimp only at h
  split at h
  · rename_i hh; exact absurd h hh
  rename_i h7
  split at h
  · rename_i hh; exact absurd h hh
  rename_i h8
  split at h
  · rename_i hh; exact absurd h hh
  rename_i h9
  simp only [ne_eq, Decidable.not_not] at h7 h8 h9
  have g3 := wiB_iff.1 h3; have g4 := wiB_iff.1 h4; have g5 := inB_iff.1 h5; have g6 := inB_iff.1 h6
  exact ⟨by omega, by omega, by omega, by omega, g3, g4, g5, g6, fun i hi => firstE_ok h7 i (by omega) (by omega), fun i hi => firstE_ok h8 i (by omega) (by omega), fun i hi => firstE_ok h9 i (by omega) (by omega)⟩
theorem errAt_rest {α : Type} {nm : α → ByteArray} {rest : Nat → α → Int} {l : List α} {i : Nat} {x : α} (hx : l[i]? = some x) (h : errAt nm rest l i = 0) : rest i x = 0 := by
  rw [errAt_some hx] at h
  split at h
  · cases h
  · split at h
    · cases h
    · exact h
/-- What is said of a node that is not the source. -/
structure NodeOK (f : TFeFeeder) (i : Nat) : Prop where
  par : 0 ≤ (nd f i).Parent ∧ (nd f i).Parent ≤ (i : Int) - 1
  cable : 0 ≤ (nd f i).Cable ∧ (nd f i).Cable ≤ (f.Cables.length : Int) - 1
  fuse : -1 ≤ (nd f i).Fuse ∧ (nd f i).Fuse ≤ (f.Fuses.length : Int) - 1
  len : 1 ≤ (nd f i).Length ∧ (nd f i).Length ≤ 5000
  l0 : 0 ≤ (nd f i).Loads0.Lo ∧ (nd f i).Loads0.Lo ≤ (nd f i).Loads0.Hi ∧ (nd f i).Loads0.Hi ≤ 1000000
  l1 : 0 ≤ (nd f i).Loads1.Lo ∧ (nd f i).Loads1.Lo ≤ (nd f i).Loads1.Hi ∧ (nd f i).Loads1.Hi ≤ 1000000
  l2 : 0 ≤ (nd f i).Loads2.Lo ∧ (nd f i).Loads2.Lo ≤ (nd f i).Loads2.Hi ∧ (nd f i).Loads2.Hi ≤ 1000000
theorem nd_get {f : TFeFeeder} {i : Nat} (h : i < f.Nodes.length) : f.Nodes[i]? = some (nd f i) := by
  unfold nd; rw [List.getD, List.getElem?_eq_getElem h]; rfl
theorem node_ok {f : TFeFeeder} (hf : OK f) {i : Nat} (h : i < f.Nodes.length) (h0 : i ≠ 0) : NodeOK f i := by
  have h1 := errAt_rest (nd_get h) (hf.nodes i h)
  unfold nodeS at h1
  rw [if_neg h0] at h1
  split at h1
  · cases h1
  rename_i h2
  split at h1
  · cases h1
  rename_i h3
  simp only [Bool.not_eq_true', Bool.not_eq_false, Bool.and_eq_true] at h2
  simp only [Bool.not_eq_true, Bool.or_eq_false_iff, Bool.not_eq_false', List.any_cons, List.any_nil, wildE] at h3
  obtain ⟨⟨a1, a2⟩, a3⟩ := h2
  obtain ⟨b1, b2, b3, b4, _⟩ := h3
  exact ⟨inB_iff.1 a1, inB_iff.1 a2, inB_iff.1 a3, inB_iff.1 b1, wiB_iff.1 b2, wiB_iff.1 b3, wiB_iff.1 b4⟩
theorem blank_of {f : TFeFeeder} (hf : OK f) : blankB (nd f 0) = true := by
  have h1 := errAt_rest (nd_get hf.pos) (hf.nodes 0 hf.pos)
  unfold nodeS at h1
  rw [if_pos rfl] at h1
  split at h1
  · assumption
  · cases h1
theorem par_lt {f : TFeFeeder} (hf : OK f) {i : Nat} (h : i < f.Nodes.length) (h0 : i ≠ 0) : par f i < i ∧ ((par f i : Nat) : Int) = (nd f i).Parent := by
  have := (node_ok hf h h0).par
  unfold par; omega
theorem upF_fuel {f : TFeFeeder} (hf : OK f) : ∀ {k j i : Nat}, i ≤ k → i ≤ j → i < f.Nodes.length → upF f k i = upF f j i := by
  intro k
  induction k with
  | zero =>
    intro j i h1 h2 h3
    obtain rfl : i = 0 := by omega
    cases j with
    | zero => rfl
    | succ j => simp [upF]
  | succ k ih =>
    intro j i h1 h2 h3
    by_cases h0 : i = 0
    · subst h0
      cases j <;> simp [upF]
    cases j with
    | zero => omega
    | succ j =>
      simp only [upF, if_neg h0]
      have := (par_lt hf h3 h0).1
      rw [ih (j := j) (i := par f i) (by omega) (by omega) (by omega)]
theorem upL_zero {f : TFeFeeder} : upL f 0 = [] := rfl
theorem upL_succ {f : TFeFeeder} (hf : OK f) {i : Nat} (h : i < f.Nodes.length) (h0 : i ≠ 0) : upL f i = i :: upL f (par f i) := by
  have hp := (par_lt hf h h0).1
  obtain ⟨k, rfl⟩ : ∃ k, i = k + 1 := ⟨i - 1, by omega⟩
  unfold upL
  rw [upF, if_neg h0, upF_fuel hf (j := par f (k + 1)) (by omega) (by omega) (by omega)]
theorem anc_zero {f : TFeFeeder} {a : Nat} : anc f a 0 = false := rfl
theorem anc_succ {f : TFeFeeder} (hf : OK f) {a i : Nat} (h : i < f.Nodes.length) (h0 : i ≠ 0) : anc f a i = (decide (a = i) || anc f a (par f i)) := by
  unfold anc
  rw [upL_succ hf h h0, List.contains_cons]
  rfl
theorem anc_le {f : TFeFeeder} (hf : OK f) {a : Nat} : ∀ {i : Nat}, i < f.Nodes.length → anc f a i = true → a ≤ i ∧ a ≠ 0 := by
  intro i
  induction i using Nat.strongRecOn with
  | ind i ih =>
    intro h h1
    by_cases h0 : i = 0
    · subst h0; cases h1
    · rw [anc_succ hf h h0, Bool.or_eq_true, decide_eq_true_eq] at h1
      have hp := (par_lt hf h h0).1
      rcases h1 with h1 | h1
      · omega
      · have := ih _ hp (by omega) h1; omega
/-- A node behind another one is it, or behind just one of its children. -/
theorem anc_split {f : TFeFeeder} (hf : OK f) {a : Nat} (ha0 : a ≠ 0) (c : Int) : ∀ {i : Nat}, i < f.Nodes.length →
    (if anc f a i then c else 0) = (if i = a then c else 0) + sumTo (fun b => if b ≠ 0 ∧ par f b = a then (if anc f b i then c else 0) else 0) f.Nodes.length := by
  intro i
  induction i using Nat.strongRecOn with
  | ind i ih =>
    intro h
    by_cases h0 : i = 0
    · subst h0
      rw [anc_zero, if_neg (by simp), if_neg (fun e => ha0 e.symm), sumTo_congr (h := fun _ => 0) fun b _ => by simp [anc_zero], sumTo_zero]; rfl
    have hp := (par_lt hf h h0).1
    have hih := ih _ hp (by omega)
    have hsum : sumTo (fun b => if b ≠ 0 ∧ par f b = a then (if anc f b i then c else 0) else 0) f.Nodes.length =
        (if par f i = a then c else 0) + sumTo (fun b => if b ≠ 0 ∧ par f b = a then (if anc f b (par f i) then c else 0) else 0) f.Nodes.length := by
      rw [show (if par f i = a then c else 0) = sumTo (fun b => if b = i then (if par f i = a then c else 0) else 0) f.Nodes.length from (sumTo_if h).symm, ← sumTo_add]
      refine sumTo_congr fun b hb => ?_
      by_cases hbi : b = i
      · subst hbi
        have : anc f b (par f b) = false := by
          cases hh : anc f b (par f b) with
          | false => rfl
          | true => have := anc_le hf (by omega) hh; omega
        rw [anc_succ hf h h0, this]
        by_cases hpa : par f b = a <;> simp [hpa, h0]
      · rw [anc_succ hf h h0]
        simp [hbi]
    by_cases hai : a = i
    · subst hai
      have hno : anc f a (par f a) = false := by
        cases hh : anc f a (par f a) with
        | false => rfl
        | true => have := anc_le hf (by omega) hh; omega
      rw [anc_succ hf h h0, hsum]
      rw [hno, if_neg (by simp), if_neg (by omega)] at hih
      rw [if_neg (show ¬ par f a = a by omega), if_pos rfl, if_pos (by simp)]
      omega
    · rw [anc_succ hf h h0, hsum, if_neg (fun e : i = a => hai e.symm)]
      simp only [hai, decide_false, Bool.false_or]
      omega
/-- The currents of a cable: the loads of its node and the currents of the cables behind it. -/
theorem cur_split {f : TFeFeeder} (hf : OK f) {sel : TFeNode → Int} {a : Nat} (ha : a < f.Nodes.length) (ha0 : a ≠ 0) :
    cur f sel a = sel (nd f a) + sumTo (fun b => if b ≠ 0 ∧ par f b = a then cur f sel b else 0) f.Nodes.length := by
  unfold cur
  rw [sumTo_congr fun i hi => anc_split hf ha0 (sel (nd f i)) hi, sumTo_add, sumTo_swap]
  congr 1
  · rw [sumTo_congr (h := fun i => if i = a then sel (nd f a) else 0) fun i _ => by by_cases e : i = a <;> simp [e], sumTo_if ha]
  · refine sumTo_congr fun b _ => ?_
    by_cases e : b ≠ 0 ∧ par f b = a
    · simp only [if_pos e]
    · simp only [if_neg e]; exact sumTo_zero
theorem cur_bound {f : TFeFeeder} (hf : OK f) {sel : TFeNode → Int} (hs : ∀ i, i < f.Nodes.length → i ≠ 0 → 0 ≤ sel (nd f i) ∧ sel (nd f i) ≤ 1000000) (a : Nat) : 0 ≤ cur f sel a ∧ cur f sel a ≤ 40000000 := by
  have h := sumTo_bound (g := fun i => if anc f a i then sel (nd f i) else 0) (n := f.Nodes.length) (B := 1000000) fun i hi => by
    by_cases h0 : i = 0
    · subst h0; simp [anc_zero]
    · have := hs i hi h0
      split <;> omega
  have := hf.nn
  unfold cur
  omega
def adE (a b : TEncl) : TEncl := ⟨IntKind.i64.wrap (a.Lo + b.Lo), IntKind.i64.wrap (a.Hi + b.Hi)⟩
def six (a b c : TEncl) : List AV := [.int .i64 a.Lo, .int .i64 a.Hi, .int .i64 b.Lo, .int .i64 b.Hi, .int .i64 c.Lo, .int .i64 c.Hi]
def curE (f : TFeFeeder) (e : TFeNode → TEncl) (i : Nat) : TEncl := ⟨cur f (fun x => (e x).Lo) i, cur f (fun x => (e x).Hi) i⟩
def rootK (n : Int) : Nat → Int → Int
  | 0, r => r
  | k + 1, r => rootK n k (if (r + 2 ^ k) * (r + 2 ^ k) < n then r + 2 ^ k else r)
def rootS (n : Int) : Int := if rootK n 31 0 * rootK n 31 0 < n then rootK n 31 0 + 1 else rootK n 31 0
theorem rootK_spec {n : Int} : ∀ (k : Nat) (r : Int), 0 ≤ r → (r = 0 ∨ r * r < n) → n ≤ (r + 2 ^ k) * (r + 2 ^ k) → 0 ≤ rootK n k r ∧ (rootK n k r = 0 ∨ rootK n k r * rootK n k r < n) ∧ n ≤ (rootK n k r + 1) * (rootK n k r + 1) := by
  intro k
  induction k with
  | zero => intro r h0 h1 h2; simp only [rootK]; simp at h2; exact ⟨h0, h1, h2⟩
  | succ k ih =>
    intro r h0 h1 h2
    have hp : (0 : Int) < 2 ^ k := Int.pow_pos (by decide)
    simp only [rootK]
    split
    · rename_i h
      refine ih _ (by omega) (.inr h) ?_
      have e : r + 2 ^ k + 2 ^ k = r + 2 ^ (k + 1) := by rw [Int.pow_succ]; omega
      rw [e]; exact h2
    · rename_i h
      exact ih _ h0 h1 (by omega)
structure IsRoot (n r : Int) : Prop where
  nn : 0 ≤ r
  up : n ≤ r * r
  low : r = 0 ∨ (r - 1) * (r - 1) < n
theorem rootS_spec {n : Int} (h : n ≤ 4000000000000000000) : IsRoot n (rootS n) := by
  obtain ⟨h1, h2, h3⟩ := rootK_spec (n := n) 31 0 (Int.le_refl 0) (.inl rfl) (by simp; omega)
  unfold rootS
  split
  · rename_i h4
    exact ⟨by omega, h3, .inr (by rw [Int.add_sub_cancel]; exact h4)⟩
  · rename_i h4
    refine ⟨h1, by omega, ?_⟩
    rcases h2 with h2 | h2
    · exact .inl h2
    · exact absurd h2 h4
theorem sq_lt {a b : Int} (h0 : 0 ≤ a) (h : a * a < b * b) (hb : 0 ≤ b) : a < b := by
  rcases Int.lt_or_le a b with h' | h'
  · exact h'
  · have : b * b ≤ a * a := Int.mul_le_mul h' h' hb h0
    omega
theorem root_unique {n r s : Int} (hr : IsRoot n r) (hs : IsRoot n s) : r = s := by
  have key : ∀ {r s : Int}, IsRoot n r → IsRoot n s → r ≤ s := by
    intro r s hr hs
    rcases hr.low with h | h
    · have := hs.nn; omega
    · rcases Int.lt_or_le r 1 with h1 | h1
      · have := hs.nn; omega
      · have := sq_lt (a := r - 1) (b := s) (by omega) (by have := hs.up; omega) hs.nn
        omega
  exact Int.le_antisymm (key hr hs) (key hs hr)
def halfD (a b c : Int) : Int := ((a - b) * (a - b) + (b - c) * (b - c) + (c - a) * (c - a)) / 2
def most3 (a b m : Int) (x : TEncl) : Int := max (max m (halfD a b x.Lo)) (halfD a b x.Hi)
def most2 (a m : Int) (y z : TEncl) : Int := most3 a y.Hi (most3 a y.Lo m z) z
def mostS (x y z : TEncl) : Int := most2 x.Hi (most2 x.Lo 0 y z) y z
def neutS (x y z : TEncl) : Int := rootS (mostS x y z)
def phE (x y z : TEncl) (p : Int) : TEncl := if p = 0 then x else if p = 1 then y else z
end Go.Proofs.Ytbdbnpnichkcjaa

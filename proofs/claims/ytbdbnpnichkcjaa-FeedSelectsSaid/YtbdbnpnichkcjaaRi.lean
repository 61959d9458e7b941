/- Contracts: melting, protections; the program's Melt, Own and the reference's. Contracts: Melt, First of the reference; at most one protection certainly opens first. Contract: First of the reference. -/
import Derived.Test.YtbdbnpnichkcjaaRf
import Derived.Test.YtbdbnpnichkcjaaX6
namespace Go.Proofs.Ytbdbnpnichkcjaa
open Go.RowKit
def meltL (l : List TFePoint) (c : Int) : TEncl × Bool :=
  match l.reverse.find? (fun p => decide (p.Current ≤ c)) with
  | some p => (p.Melt, true)
  | none => (.zero, false)
theorem meltL_take {l : List TFePoint} {c : Int} {k : Nat} {p : TFePoint} (h : l[k]? = some p) : meltL (l.take (k + 1)) c = if decide (p.Current ≤ c) then (p.Melt, true) else meltL (l.take k) c := by
  unfold meltL
  rw [List.take_add_one, h]
  simp only [Option.toList, List.reverse_append, List.reverse_singleton, List.singleton_append, List.find?_cons]
  cases decide (p.Current ≤ c) <;> rfl
def R77 (x : TFeFuse) (current : Int) (_S : SpecF) (_Fr : FuncId → List AV → Nat → List AV → Prop) (_Sq : FuncId → List AV → List (List AV) → List (List AV) → Prop) (Q : AV → List (List AV) → Prop) : Prop :=
  ∃ (I0 : Nat → List AV → Prop), (∃ m2, I0 m2 [AV.bool false, AV.int .i64 (0 : Int), TEncl.zero.av]) ∧ ∀ (m2 : Nat) (b3 : Bool) (n4 n5 n6 : Int), I0 m2 [AV.bool b3, AV.int .i64 n4, AV.agg [AV.int .i64 n5, AV.int .i64 n6]] → (decide (n4 < (↑(List.map TFePoint.av x.Points).length : Int)) = true → ∃ n10 n11 n12, ((0 : Int) ≤ n4 ∧ (3 : Nat) = (3 : Nat) ∧ (List.map TFePoint.av x.Points)[n4.toNat]? = some (AV.agg [AV.int .i64 n10, AV.int .i64 n11, AV.int .i64 n12])) ∧ (decide (n10 ≤ current) = true → ∃ n16 n17 n18, ((0 : Int) ≤ n4 ∧ (3 : Nat) = (3 : Nat) ∧ (List.map TFePoint.av x.Points)[n4.toNat]? = some (AV.agg [AV.int .i64 n16, AV.int .i64 n17, AV.int .i64 n18])) ∧ x.cs = x.cs ∧ TEncl.z0 = TEncl.z0 ∧ ∃ k22, k22 < m2 ∧ I0 k22 [AV.bool true, AV.int .i64 (IntKind.i64.wrap (n4 + (1 : Int))), AV.agg [AV.int .i64 n17, AV.int .i64 n18]]) ∧ (decide (n10 ≤ current) = false → x.cs = x.cs ∧ TEncl.z0 = TEncl.z0 ∧ ∃ k18, k18 < m2 ∧ I0 k18 [AV.bool b3, AV.int .i64 (IntKind.i64.wrap (n4 + (1 : Int))), AV.agg [AV.int .i64 n5, AV.int .i64 n6]])) ∧ (decide (n4 < (↑(List.map TFePoint.av x.Points).length : Int)) = false → Q (AV.tup [AV.agg [AV.int .i64 n5, AV.int .i64 n6], AV.bool b3]) [])
theorem r77 (x : TFeFuse) (current : Int) (S : SpecF) (Fr : FuncId → List AV → Nat → List AV → Prop) (Sq : FuncId → List AV → List (List AV) → List (List AV) → Prop) (Q : AV → List (List AV) → Prop) : awpF Try.prog (mkS Try.prog S Fr Sq ⟨[], [], [], [], []⟩ 0) 0 ⟨[0, 1, 2, 4, 5, 6, 7, 8, 13, 23], [⟨4, [(7, .bool false), (8, .int .i64 0)], [], [(6, .agg [.int .i64 0, .int .i64 0])], [], []⟩], [], []⟩ Try.f77 [x.av, .int .i64 current] [] Q = R77 x current S Fr Sq Q := by kernel_rfl
theorem s77 (x : TFeFuse) (current : Int) (v : AV) (O : List (List AV)) (h : R77 x current (SpecOf Try.prog) (FreshOf Try.prog) (SeqOf Try.prog) (fun r O' => r = v ∧ O' = O)) : SpecOf Try.prog 77 [x.av, .int .i64 current] [] v O :=
  spec_by (boxes := []) mixed (by exact trivial) Try.func77 Try.call77 rfl rfl rfl (Nat.le_of_ble_eq_true rfl) (r77 x current (SpecOf Try.prog) (FreshOf Try.prog) (SeqOf Try.prog) _) h
theorem c77 (x : TFeFuse) (c : Int) (hl : x.Points.length ≤ 1000000) : Sp 77 [x.av, .int .i64 c] [] (meltA (meltS x c)) [] := s77 x c _ _ (by
  unfold R77
  simp only [List.length_map]
  refine ⟨fun m vs => ∃ k : Nat, k ≤ x.Points.length ∧ m = x.Points.length - k ∧ vs = [.bool (meltL (x.Points.take k) c).2, .int .i64 k, (meltL (x.Points.take k) c).1.av], ⟨_, 0, by omega, rfl, rfl⟩, ?_⟩
  rintro m b n n1 n2 ⟨k, hk, rfl, hv⟩
  cases hv
  refine ⟨fun g => ?_, fun g => ⟨?_, trivial⟩⟩
  · have g : k < x.Points.length := by simpa using g
    obtain ⟨p, hp, hp'⟩ := map_getN (f := TFePoint.av) g
    have hs := meltL_take (c := c) hp
    have fin : ∀ r : TEncl × Bool, r = meltL (x.Points.take (k + 1)) c → ∃ m', m' < x.Points.length - k ∧ ∃ j : Nat, j ≤ x.Points.length ∧ m' = x.Points.length - j ∧ [AV.bool r.2, .int .i64 (IntKind.i64.wrap ((k : Int) + 1)), r.1.av] = [.bool (meltL (x.Points.take j) c).2, .int .i64 j, (meltL (x.Points.take j) c).1.av] := fun r hr =>
      ⟨_, (by omega : x.Points.length - (k + 1) < x.Points.length - k), k + 1, by omega, rfl, by rw [hr, wrapN (by omega)]⟩
    refine ⟨p.Current, p.Melt.Lo, p.Melt.Hi, ⟨by omega, trivial, hp'⟩, fun q => ⟨p.Current, p.Melt.Lo, p.Melt.Hi, ⟨by omega, trivial, hp'⟩, ?_⟩, fun q => ?_⟩
    · have ff := fin (p.Melt, true) (by rw [hs, if_pos q])
      first | exact ff | exact ⟨trivial, ff⟩ | exact ⟨trivial, trivial, ff⟩ | exact ⟨rfl, rfl, ff⟩
    · have ff := fin (meltL (x.Points.take k) c) (by rw [hs, if_neg (by rw [q]; simp)])
      first | exact ff | exact ⟨trivial, ff⟩ | exact ⟨trivial, trivial, ff⟩ | exact ⟨rfl, rfl, ff⟩
  · have : k = x.Points.length := by simp at g; omega
    subst this
    rw [List.take_length]; rfl)
def gn (f : TFeFeeder) (node : Nat) : List Nat := (upL f node).filter (hasF f)
theorem guards_gn {f : TFeFeeder} {node : Nat} : guardsL f (upL f node) = (gn f node).map (guardS f) := rfl
theorem gn_mem {f : TFeFeeder} (hf : OK f) {node i : Nat} (h : node < f.Nodes.length) (hi : i ∈ gn f node) : i ≠ 0 ∧ i < f.Nodes.length ∧ 0 ≤ (nd f i).Fuse := by
  obtain ⟨h1, h2⟩ := List.mem_filter.1 hi
  have := upL_mem hf h h1
  exact ⟨this.1, this.2.1, by simpa [hasF] using h2⟩
def R82 (f : TFeFeeder) (node : Int) (S : SpecF) (_Fr : FuncId → List AV → Nat → List AV → Prop) (_Sq : FuncId → List AV → List (List AV) → List (List AV) → Prop) (Q : AV → List (List AV) → Prop) : Prop :=
  ∃ es0, S (90 : Nat) [f.av, AV.int .i64 node] [] (AV.slc (3 : Nat) es0) [] ∧ ∃ (I2 : Nat → List AV → Prop), (∃ m4, I2 m4 [AV.int .i64 (0 : Int), AV.slc (3 : Nat) []]) ∧ ∀ (m4 : Nat) (n5 : Int) (es6 : List AV), I2 m4 [AV.int .i64 n5, AV.slc (3 : Nat) es6] → (decide (n5 < (↑es0.length : Int)) = true → ∃ n10, ((0 : Int) ≤ n5 ∧ (1 : Nat) = (1 : Nat) ∧ es0[n5.toNat]? = some (AV.int .i64 n10)) ∧ ∃ s12 n13 n14 n15 n16 n17 n18 n19 n20 n21 n22, ((0 : Int) ≤ n10 ∧ (11 : Nat) = (11 : Nat) ∧ (List.map TFeNode.av f.Nodes)[n10.toNat]? = some (AV.agg [AV.str s12, AV.int .i64 n13, AV.int .i64 n14, AV.int .i64 n15, AV.int .i64 n16, AV.int .i64 n17, AV.int .i64 n18, AV.int .i64 n19, AV.int .i64 n20, AV.int .i64 n21, AV.int .i64 n22])) ∧ (decide (n16 ≥ (0 : Int)) = true → ∃ n26, ((0 : Int) ≤ n5 ∧ (1 : Nat) = (1 : Nat) ∧ es0[n5.toNat]? = some (AV.int .i64 n26)) ∧ elemsOf (1 : Nat) [AV.int .i64 n26] ∧ ((List.flatMap AV.cells es6).length = es6.length * (1 : Nat) ∧ (es6.length + (1 : Nat) + (200 : Nat)) * (9 : Nat) ≤ (70368744177664 : Nat) ∧ ones [AV.int .i64 n26] = true ∧ ones (List.flatMap AV.cells es6) = true) ∧ f.cs = f.cs ∧ ∃ es31, (es31.length = es6.length + (1 : Nat) ∧ List.flatMap AV.cells es31 = List.flatMap AV.cells es6 ++ [AV.int .i64 n26]) ∧ ∃ k33, k33 < m4 ∧ I2 k33 [AV.int .i64 (IntKind.i64.wrap (n5 + (1 : Int))), AV.slc (3 : Nat) es31]) ∧ (decide (n16 ≥ (0 : Int)) = false → f.cs = f.cs ∧ ∃ es27, (es27.length = es6.length ∧ List.flatMap AV.cells es27 = List.flatMap AV.cells es6) ∧ ∃ k29, k29 < m4 ∧ I2 k29 [AV.int .i64 (IntKind.i64.wrap (n5 + (1 : Int))), AV.slc (3 : Nat) es27])) ∧ (decide (n5 < (↑es0.length : Int)) = false → ((0 : Nat) + es6.length * (1 : Nat) ≤ (List.flatMap AV.cells es6).length ∧ ones (List.flatMap AV.cells es6) = true) ∧ Q (AV.slc (3 : Nat) (chunks (1 : Nat) (isAggT Try.prog (3 : Nat)) es6.length (List.drop (0 : Nat) (List.flatMap AV.cells es6)))) [])
theorem r82 (f : TFeFeeder) (node : Int) (S : SpecF) (Fr : FuncId → List AV → Nat → List AV → Prop) (Sq : FuncId → List AV → List (List AV) → List (List AV) → Prop) (Q : AV → List (List AV) → Prop) : awpF Try.prog (mkS Try.prog S Fr Sq ⟨[], [], [], [], []⟩ 0) 0 ⟨[0, 1, 2, 4, 5, 6, 7, 14, 26], [⟨4, [(7, .int .i64 0)], [(5, 3)], [], [], []⟩], [], []⟩ Try.f82 [f.av, .int .i64 node] [] Q = R82 f node S Fr Sq Q := by kernel_rfl
theorem s82 (f : TFeFeeder) (node : Int) (v : AV) (O : List (List AV)) (h : R82 f node (SpecOf Try.prog) (FreshOf Try.prog) (SeqOf Try.prog) (fun r O' => r = v ∧ O' = O)) : SpecOf Try.prog 82 [f.av, .int .i64 node] [] v O :=
  spec_by (boxes := []) mixed (by exact trivial) Try.func82 Try.call82 rfl rfl rfl (Nat.le_of_ble_eq_true rfl) (r82 f node (SpecOf Try.prog) (FreshOf Try.prog) (SeqOf Try.prog) _) h
theorem c82 {f : TFeFeeder} (hf : OK f) (node : Nat) (h : node < f.Nodes.length) : Sp 82 [f.av, .int .i64 node] [] (.slc 3 ((gn f node).reverse.map nI)) [] := s82 f node _ _ (by
  unfold R82
  have hul := upL_len hf h
  have hnn := hf.nn
  refine ⟨_, c90 hf node h, ?_⟩
  have hmem : ∀ i ∈ (upL f node).reverse, i ≠ 0 ∧ i < f.Nodes.length := fun i hi => by have := upL_mem hf h (List.mem_reverse.1 hi); exact ⟨this.1, this.2.1⟩
  have hl : (upL f node).reverse.length ≤ 40 := by rw [List.length_reverse]; omega
  have hg : (gn f node).reverse = (upL f node).reverse.filter (hasF f) := by unfold gn; rw [List.filter_reverse]
  rw [hg]
  clear hg
  generalize (upL f node).reverse = L at hmem hl
  simp only [List.length_map]
  refine ⟨fun m vs => ∃ k : Nat, k ≤ L.length ∧ m = L.length - k ∧ vs = [.int .i64 k, .slc 3 (((L.take k).filter (hasF f)).map nI)], ⟨_, 0, by omega, rfl, rfl⟩, ?_⟩
  rintro m n es ⟨k, hk, rfl, hv⟩
  cases hv
  obtain ⟨f1, f2⟩ := flatN ((L.take k).filter (hasF f))
  have fl : ((L.take k).filter (hasF f)).length ≤ 40 := Nat.le_trans (List.length_filter_le _ _) (by rw [List.length_take]; omega)
  refine ⟨fun g => ?_, fun g => ?_⟩
  · have g : k < L.length := by simpa using g
    obtain ⟨x, hx, hx'⟩ := map_getN (f := nI) g
    obtain ⟨h0, hlt⟩ := hmem x (List.mem_of_getElem? hx)
    have hs : (L.take (k + 1)).filter (hasF f) = (L.take k).filter (hasF f) ++ if hasF f x then [x] else [] := by
      rw [List.take_add_one, hx, List.filter_append]; congr 1
      simp only [Option.toList, List.filter_cons, List.filter_nil]
    have hw := wrapN (k := k) (by omega)
    refine ⟨x, ⟨by omega, trivial, hx'⟩, (nd f x).Name, (nd f x).Parent, (nd f x).Cable, (nd f x).Length, (nd f x).Fuse, (nd f x).Loads0.Lo, (nd f x).Loads0.Hi, (nd f x).Loads1.Lo, (nd f x).Loads1.Hi, (nd f x).Loads2.Lo, (nd f x).Loads2.Hi, ⟨by omega, trivial, nd_av hlt⟩, fun q => ?_, fun q => ?_⟩
    · have q' : hasF f x = true := q
      have tl : ∃ es : List AV, (es.length = (((L.take k).filter (hasF f)).map nI).length + 1 ∧ es.flatMap AV.cells = (((L.take k).filter (hasF f)).map nI).flatMap AV.cells ++ [.int .i64 (x : Nat)]) ∧ ∃ m', m' < L.length - k ∧ ∃ j : Nat, j ≤ L.length ∧ m' = L.length - j ∧ [AV.int .i64 (IntKind.i64.wrap ((k : Int) + 1)), .slc 3 es] = [.int .i64 j, .slc 3 (((L.take j).filter (hasF f)).map nI)] :=
        ⟨((L.take (k + 1)).filter (hasF f)).map nI, ⟨by rw [hs, if_pos q']; simp, by rw [hs, if_pos q', (flatN _).1, f1, List.map_append]; rfl⟩, _, (by omega : L.length - (k + 1) < L.length - k), k + 1, by omega, rfl, by rw [hw]⟩
      refine ⟨x, ⟨by omega, trivial, hx'⟩, ?_, ⟨by rw [f1]; simp, by rw [List.length_map]; omega, rfl, by rw [f1]; exact f2⟩, ?_⟩
      · intro v hv; rw [List.mem_singleton] at hv; rw [hv]; rfl
      · first | exact ⟨trivial, tl⟩ | exact tl | exact ⟨rfl, tl⟩
    · have q' : hasF f x = false := q
      have tl : ∃ es : List AV, (es.length = (((L.take k).filter (hasF f)).map nI).length ∧ es.flatMap AV.cells = (((L.take k).filter (hasF f)).map nI).flatMap AV.cells) ∧ ∃ m', m' < L.length - k ∧ ∃ j : Nat, j ≤ L.length ∧ m' = L.length - j ∧ [AV.int .i64 (IntKind.i64.wrap ((k : Int) + 1)), .slc 3 es] = [.int .i64 j, .slc 3 (((L.take j).filter (hasF f)).map nI)] :=
        ⟨((L.take k).filter (hasF f)).map nI, ⟨by simp, rfl⟩, _, (by omega : L.length - (k + 1) < L.length - k), k + 1, by omega, rfl, by rw [hw, hs, if_neg (by rw [q']; simp), List.append_nil]⟩
      first | exact ⟨trivial, tl⟩ | exact tl | exact ⟨rfl, tl⟩
  · have : k = L.length := by simp at g; omega
    subst this
    rw [List.take_length] at f1 f2 ⊢
    refine ⟨⟨by rw [f1]; simp, by rw [f1]; exact f2⟩, ?_, trivial⟩
    rw [f1, agg3']; simp only [chunks, List.drop_zero]; rw [if_neg (by simp), List.take_of_length_le (by simp)])
def ownS (f : TFeFeeder) (node : Nat) : Int := match gn f node with
  | [] => -1
  | g :: _ => (g : Nat)
def R72 (f : TFeFeeder) (node : Int) (S : SpecF) (_Fr : FuncId → List AV → Nat → List AV → Prop) (_Sq : FuncId → List AV → List (List AV) → List (List AV) → Prop) (Q : AV → List (List AV) → Prop) : Prop :=
  ∃ es0, S (82 : Nat) [f.av, AV.int .i64 node] [] (AV.slc (3 : Nat) es0) [] ∧ (((↑es0.length : Int) == (0 : Int)) = true → Q (AV.int .i64 (-1 : Int)) []) ∧ (((↑es0.length : Int) == (0 : Int)) = false → ∃ n4, ((0 : Int) ≤ IntKind.i64.wrap ((↑es0.length : Int) - (1 : Int)) ∧ (1 : Nat) = (1 : Nat) ∧ es0[(IntKind.i64.wrap ((↑es0.length : Int) - (1 : Int))).toNat]? = some (AV.int .i64 n4)) ∧ Q (AV.int .i64 n4) [])
theorem r72 (f : TFeFeeder) (node : Int) (S : SpecF) (Fr : FuncId → List AV → Nat → List AV → Prop) (Sq : FuncId → List AV → List (List AV) → List (List AV) → Prop) (Q : AV → List (List AV) → Prop) : awpF Try.prog (mkS Try.prog S Fr Sq ⟨[], [], [], [], []⟩ 0) 0 ⟨[0, 1, 2, 4, 5, 11], [], [], []⟩ Try.f72 [f.av, .int .i64 node] [] Q = R72 f node S Fr Sq Q := by kernel_rfl
theorem s72 (f : TFeFeeder) (node : Int) (v : AV) (O : List (List AV)) (h : R72 f node (SpecOf Try.prog) (FreshOf Try.prog) (SeqOf Try.prog) (fun r O' => r = v ∧ O' = O)) : SpecOf Try.prog 72 [f.av, .int .i64 node] [] v O :=
  spec_by (boxes := []) mixed (by exact trivial) Try.func72 Try.call72 rfl rfl rfl (Nat.le_of_ble_eq_true rfl) (r72 f node (SpecOf Try.prog) (FreshOf Try.prog) (SeqOf Try.prog) _) h
theorem c72 {f : TFeFeeder} (hf : OK f) (node : Nat) (h : node < f.Nodes.length) : Sp 72 [f.av, .int .i64 node] [] (.int .i64 (ownS f node)) [] := s72 f node _ _ (by
  unfold R72
  have hl : (gn f node).length ≤ 40 := Nat.le_trans (List.length_filter_le _ _) (upL_len40 hf h)
  refine ⟨_, c82 hf node h, ?_⟩
  simp only [List.length_map, List.length_reverse]
  unfold ownS
  cases hg : gn f node with
  | nil => exact ⟨fun _ => ⟨rfl, trivial⟩, fun h => by simp at h⟩
  | cons g r =>
    rw [hg, List.length_cons] at hl
    refine ⟨fun h => by simp at h; omega, fun _ => ?_⟩
    have e : IntKind.i64.wrap ((((g :: r).length : Nat) : Int) - 1) = (r.length : Int) := by rw [i64 (by rw [List.length_cons]; omega), List.length_cons]; omega
    rw [e]
    refine ⟨g, ⟨by omega, trivial, ?_⟩, rfl, trivial⟩
    rw [Int.toNat_natCast, List.reverse_cons, List.map_append, List.getElem?_append_right (by simp)]
    simp [nI])
def ownR (f : TFeFeeder) (node : Int) : Int × Int := if askedS f node ≠ 0 then (0, askedS f node) else (ownS f node.toNat, 0)
def R30 (f : TFeFeeder) (node : Int) (S : SpecF) (_Fr : FuncId → List AV → Nat → List AV → Prop) (_Sq : FuncId → List AV → List (List AV) → List (List AV) → Prop) (Q : AV → List (List AV) → Prop) : Prop :=
  ∃ n0, S (63 : Nat) [f.av, AV.int .i64 node, AV.bool false] [] (AV.int .i64 n0) [] ∧ ((n0 != (0 : Int)) = true → Q (AV.tup [AV.int .i64 (0 : Int), AV.int .i64 n0]) []) ∧ ((n0 != (0 : Int)) = false → ∃ n4, S (72 : Nat) [f.av, AV.int .i64 node] [] (AV.int .i64 n4) [] ∧ Q (AV.tup [AV.int .i64 n4, AV.int .i64 (0 : Int)]) [])
theorem r30 (f : TFeFeeder) (node : Int) (S : SpecF) (Fr : FuncId → List AV → Nat → List AV → Prop) (Sq : FuncId → List AV → List (List AV) → List (List AV) → Prop) (Q : AV → List (List AV) → Prop) : awpF Try.prog (mkS Try.prog S Fr Sq ⟨[], [], [], [], []⟩ 0) 0 ⟨[0, 1, 2, 4, 5, 6, 11], [], [], []⟩ Try.f30 [f.av, .int .i64 node] [] Q = R30 f node S Fr Sq Q := by kernel_rfl
theorem s30 (f : TFeFeeder) (node : Int) (v : AV) (O : List (List AV)) (h : R30 f node (SpecOf Try.prog) (FreshOf Try.prog) (SeqOf Try.prog) (fun r O' => r = v ∧ O' = O)) : SpecOf Try.prog 30 [f.av, .int .i64 node] [] v O :=
  spec_by (boxes := []) mixed (by exact trivial) Try.func30 Try.call30 rfl rfl rfl (Nat.le_of_ble_eq_true rfl) (r30 f node (SpecOf Try.prog) (FreshOf Try.prog) (SeqOf Try.prog) _) h
theorem c30 (f : TFeFeeder) (hn : NOK f) (node : Int) : Sp 30 [f.av, .int .i64 node] [] (.tup [.int .i64 (ownR f node).1, .int .i64 (ownR f node).2]) [] := s30 f node _ _ (by
  have h63 := c63 f hn node false
  rw [if_neg (by simp)] at h63
  refine ⟨_, h63, fun h => ⟨?_, rfl⟩, fun h => ?_⟩
  · have h : askedS f node ≠ 0 := by simpa using h
    rw [ownR, if_pos h]
  · have h : askedS f node = 0 := by simpa using h
    obtain ⟨hf, k, rfl, hk⟩ := asked_ok h
    rw [ownR, if_neg (by omega)]
    exact ⟨_, c72 hf k hk, rfl, rfl⟩)
def R29 (f : TFeFeeder) (node : Int) (S : SpecF) (_Fr : FuncId → List AV → Nat → List AV → Prop) (_Sq : FuncId → List AV → List (List AV) → List (List AV) → Prop) (Q : AV → List (List AV) → Prop) : Prop :=
  ∃ n0, S (61 : Nat) [f.av, AV.int .i64 node] [] (AV.int .i64 n0) [] ∧ ((n0 != (0 : Int)) = true → Q (AV.tup [AV.int .i64 (0 : Int), AV.int .i64 n0]) []) ∧ ((n0 != (0 : Int)) = false → ∃ es4, S (78 : Nat) [f.av, AV.int .i64 node] [] (AV.slc (3 : Nat) es4) [] ∧ ∃ (I6 : Nat → List AV → Prop), (∃ m8, I6 m8 [AV.int .i64 (0 : Int)]) ∧ ∀ (m8 : Nat) (n9 : Int), I6 m8 [AV.int .i64 n9] → (decide (n9 < (↑es4.length : Int)) = true → ∃ n13 s14 n15 es16 n17, ((0 : Int) ≤ n9 ∧ (5 : Nat) = (5 : Nat) ∧ es4[n9.toNat]? = some (AV.agg [AV.int .i64 n13, AV.str s14, AV.int .i64 n15, AV.slc (3 : Nat) es16, AV.int .i64 n17])) ∧ Q (AV.tup [AV.int .i64 n13, AV.int .i64 (0 : Int)]) []) ∧ (decide (n9 < (↑es4.length : Int)) = false → Q (AV.tup [AV.int .i64 (-1 : Int), AV.int .i64 (0 : Int)]) []))
theorem r29 (f : TFeFeeder) (node : Int) (S : SpecF) (Fr : FuncId → List AV → Nat → List AV → Prop) (Sq : FuncId → List AV → List (List AV) → List (List AV) → Prop) (Q : AV → List (List AV) → Prop) : awpF Try.prog (mkS Try.prog S Fr Sq ⟨[], [], [], [], []⟩ 0) 0 ⟨[0, 1, 2, 4, 5, 6, 8, 13, 17, 18, 19, 20], [⟨5, [(19, .int .i64 0)], [], [], [], []⟩], [], []⟩ Try.f29 [f.av, .int .i64 node] [] Q = R29 f node S Fr Sq Q := by kernel_rfl
theorem s29 (f : TFeFeeder) (node : Int) (v : AV) (O : List (List AV)) (h : R29 f node (SpecOf Try.prog) (FreshOf Try.prog) (SeqOf Try.prog) (fun r O' => r = v ∧ O' = O)) : SpecOf Try.prog 29 [f.av, .int .i64 node] [] v O :=
  spec_by (boxes := []) mixed (by exact trivial) Try.func29 Try.call29 rfl rfl rfl (Nat.le_of_ble_eq_true rfl) (r29 f node (SpecOf Try.prog) (FreshOf Try.prog) (SeqOf Try.prog) _) h
theorem c29 (f : TFeFeeder) (hn : NOK f) (node : Int) : Sp 29 [f.av, .int .i64 node] [] (.tup [.int .i64 (ownR f node).1, .int .i64 (ownR f node).2]) [] := s29 f node _ _ (by
  unfold R29
  refine ⟨_, c61 f hn node, fun h => ⟨?_, rfl⟩, fun h => ?_⟩
  · have h : askedS f node ≠ 0 := by simpa using h
    rw [ownR, if_pos h]
  · have h : askedS f node = 0 := by simpa using h
    obtain ⟨hf, k, rfl, hk⟩ := asked_ok h
    have hR : ownR f k = (ownS f k, 0) := by rw [ownR, if_neg (by omega)]; rfl
    rw [hR]
    refine ⟨_, c78 hf k hk, ?_⟩
    rw [guards_gn]
    unfold ownS
    simp only [List.length_map]
    cases hg : gn f k with
    | nil =>
      refine ⟨fun m vs => vs = [.int .i64 0], ⟨0, rfl⟩, ?_⟩
      rintro m n hv
      cases hv
      exact ⟨fun h => by simp at h, fun _ => ⟨rfl, trivial⟩⟩
    | cons g r =>
      refine ⟨fun m vs => vs = [.int .i64 0], ⟨0, rfl⟩, ?_⟩
      rintro m n hv
      cases hv
      refine ⟨fun h => ⟨(guardS f g).node, (guardS f g).fuse.Name, (guardS f g).fuse.Rated, List.map TFePoint.av (guardS f g).fuse.Points, (guardS f g).besides, ⟨by omega, trivial, rfl⟩, rfl, trivial⟩, fun h => by first | (simp at h; done) | (simp at h; omega)⟩)
def R114 (f : TFeFeeder) (node : Int) (S : SpecF) (_Fr : FuncId → List AV → Nat → List AV → Prop) (_Sq : FuncId → List AV → List (List AV) → List (List AV) → Prop) (Q : AV → List (List AV) → Prop) : Prop :=
  ∃ n0 n1 n2 n3 n4 n5, S (71 : Nat) [f.av, AV.int .i64 node] [] (AV.agg [AV.int .i64 n0, AV.int .i64 n1, AV.int .i64 n2, AV.int .i64 n3, AV.int .i64 n4, AV.int .i64 n5]) [] ∧ Q (AV.int .i64 (if n5 > if true = true then if n3 > n1 then n3 else n1 else if n3 < n1 then n3 else n1 then n5 else if n3 > n1 then n3 else n1)) []
theorem r114 (f : TFeFeeder) (node : Int) (S : SpecF) (Fr : FuncId → List AV → Nat → List AV → Prop) (Sq : FuncId → List AV → List (List AV) → List (List AV) → Prop) (Q : AV → List (List AV) → Prop) : awpF Try.prog (mkS Try.prog S Fr Sq ⟨[], [], [], [], []⟩ 0) 0 ⟨[0, 1, 2, 4, 5], [], [], []⟩ Try.f114 [f.av, .int .i64 node] [] Q = R114 f node S Fr Sq Q := by kernel_rfl
theorem s114 (f : TFeFeeder) (node : Int) (v : AV) (O : List (List AV)) (h : R114 f node (SpecOf Try.prog) (FreshOf Try.prog) (SeqOf Try.prog) (fun r O' => r = v ∧ O' = O)) : SpecOf Try.prog 114 [f.av, .int .i64 node] [] v O :=
  spec_by (boxes := []) mixed (by exact trivial) Try.func114 Try.call114 rfl rfl rfl (Nat.le_of_ble_eq_true rfl) (r114 f node (SpecOf Try.prog) (FreshOf Try.prog) (SeqOf Try.prog) _) h
theorem c114 {f : TFeFeeder} (hf : OK f) (i : Nat) : Sp 114 [f.av, .int .i64 i] [] (.int .i64 (besS f i)) [] := s114 f i _ _ ⟨_, _, _, _, _, _, c71 hf i, rfl, rfl⟩
def befB (f : TFeFeeder) (a b : Nat) (c : Int) : Bool := (meltS (fz f a) c).2 && beatsB (guardS f a) (guardS f b) c
def R83 (f : TFeFeeder) (one : Int) (other : Int) (current : Int) (S : SpecF) (_Fr : FuncId → List AV → Nat → List AV → Prop) (_Sq : FuncId → List AV → List (List AV) → List (List AV) → Prop) (Q : AV → List (List AV) → Prop) : Prop :=
  ∃ s0 n1 n2 n3 n4 n5 n6 n7 n8 n9 n10, ((0 : Int) ≤ one ∧ (11 : Nat) = (11 : Nat) ∧ (List.map TFeNode.av f.Nodes)[one.toNat]? = some (AV.agg [AV.str s0, AV.int .i64 n1, AV.int .i64 n2, AV.int .i64 n3, AV.int .i64 n4, AV.int .i64 n5, AV.int .i64 n6, AV.int .i64 n7, AV.int .i64 n8, AV.int .i64 n9, AV.int .i64 n10])) ∧ ∃ s12 n13 es14, ((0 : Int) ≤ n4 ∧ (3 : Nat) = (3 : Nat) ∧ (List.map TFeFuse.av f.Fuses)[n4.toNat]? = some (AV.agg [AV.str s12, AV.int .i64 n13, AV.slc (3 : Nat) es14])) ∧ ∃ n16 n17 b18, S (77 : Nat) [AV.agg [AV.str s12, AV.int .i64 n13, AV.slc (3 : Nat) es14], AV.int .i64 current] [] (AV.tup [AV.agg [AV.int .i64 n16, AV.int .i64 n17], AV.bool b18]) [] ∧ ∃ s20 n21 n22 n23 n24 n25 n26 n27 n28 n29 n30, ((0 : Int) ≤ other ∧ (11 : Nat) = (11 : Nat) ∧ (List.map TFeNode.av f.Nodes)[other.toNat]? = some (AV.agg [AV.str s20, AV.int .i64 n21, AV.int .i64 n22, AV.int .i64 n23, AV.int .i64 n24, AV.int .i64 n25, AV.int .i64 n26, AV.int .i64 n27, AV.int .i64 n28, AV.int .i64 n29, AV.int .i64 n30])) ∧ ∃ s32 n33 es34, ((0 : Int) ≤ n24 ∧ (3 : Nat) = (3 : Nat) ∧ (List.map TFeFuse.av f.Fuses)[n24.toNat]? = some (AV.agg [AV.str s32, AV.int .i64 n33, AV.slc (3 : Nat) es34])) ∧ ∃ n36, S (114 : Nat) [f.av, AV.int .i64 other] [] (AV.int .i64 n36) [] ∧ ∃ n38 n39 b40, S (77 : Nat) [AV.agg [AV.str s32, AV.int .i64 n33, AV.slc (3 : Nat) es34], AV.int .i64 (IntKind.i64.wrap (current + n36))] [] (AV.tup [AV.agg [AV.int .i64 n38, AV.int .i64 n39], AV.bool b40]) [] ∧ (b18 = true → ((!b40) = true → Q (AV.bool true) []) ∧ ((!b40) = false → Q (AV.bool (decide (n17 < n38))) [])) ∧ (b18 = false → Q (AV.bool false) [])
theorem r83 (f : TFeFeeder) (one : Int) (other : Int) (current : Int) (S : SpecF) (Fr : FuncId → List AV → Nat → List AV → Prop) (Sq : FuncId → List AV → List (List AV) → List (List AV) → Prop) (Q : AV → List (List AV) → Prop) : awpF Try.prog (mkS Try.prog S Fr Sq ⟨[], [], [], [], []⟩ 0) 0 ⟨[0, 1, 2, 3, 4, 8, 9, 10, 11, 12], [], [], []⟩ Try.f83 [f.av, .int .i64 one, .int .i64 other, .int .i64 current] [] Q = R83 f one other current S Fr Sq Q := by kernel_rfl
theorem s83 (f : TFeFeeder) (one : Int) (other : Int) (current : Int) (v : AV) (O : List (List AV)) (h : R83 f one other current (SpecOf Try.prog) (FreshOf Try.prog) (SeqOf Try.prog) (fun r O' => r = v ∧ O' = O)) : SpecOf Try.prog 83 [f.av, .int .i64 one, .int .i64 other, .int .i64 current] [] v O :=
  spec_by (boxes := []) mixed (by exact trivial) Try.func83 Try.call83 rfl rfl rfl (Nat.le_of_ble_eq_true rfl) (r83 f one other current (SpecOf Try.prog) (FreshOf Try.prog) (SeqOf Try.prog) _) h
theorem c83 {f : TFeFeeder} (hf : OK f) (a b : Nat) (ha : a ≠ 0 ∧ a < f.Nodes.length ∧ 0 ≤ (nd f a).Fuse) (hb : b ≠ 0 ∧ b < f.Nodes.length ∧ 0 ≤ (nd f b).Fuse) (c : Int) (hc : -2000000000000 ≤ c ∧ c ≤ 2000000000000) :
    Sp 83 [f.av, .int .i64 a, .int .i64 b, .int .i64 c] [] (.bool (befB f a b c)) [] := s83 f a b c _ _ (by
  unfold R83
  obtain ⟨a0, a1, a2⟩ := ha
  obtain ⟨b0, b1, b2⟩ := hb
  have la := (fuse_ok hf (fz_get hf a1 a0 a2)).len
  have lb := (fuse_ok hf (fz_get hf b1 b0 b2)).len
  have hbb := bes_bound hf b
  have e : IntKind.i64.wrap (c + besS f b) = c + besS f b := i64 (by omega)
  refine ⟨(nd f a).Name, (nd f a).Parent, (nd f a).Cable, (nd f a).Length, (nd f a).Fuse, (nd f a).Loads0.Lo, (nd f a).Loads0.Hi, (nd f a).Loads1.Lo, (nd f a).Loads1.Hi, (nd f a).Loads2.Lo, (nd f a).Loads2.Hi, ⟨by omega, rfl, nd_av a1⟩, (fz f a).Name, (fz f a).Rated, List.map TFePoint.av (fz f a).Points, ⟨a2, rfl, fz_av hf a1 a0 a2⟩, _, _, _, c77 (fz f a) c (by omega), (nd f b).Name, (nd f b).Parent, (nd f b).Cable, (nd f b).Length, (nd f b).Fuse, (nd f b).Loads0.Lo, (nd f b).Loads0.Hi, (nd f b).Loads1.Lo, (nd f b).Loads1.Hi, (nd f b).Loads2.Lo, (nd f b).Loads2.Hi, ⟨by omega, rfl, nd_av b1⟩, (fz f b).Name, (fz f b).Rated, List.map TFePoint.av (fz f b).Points, ⟨b2, rfl, fz_av hf b1 b0 b2⟩, _, c114 hf b, (meltS (fz f b) (c + besS f b)).1.Lo, (meltS (fz f b) (c + besS f b)).1.Hi, (meltS (fz f b) (c + besS f b)).2, ?_, fun q => ⟨fun q2 => ⟨?_, rfl⟩, fun q2 => ⟨?_, rfl⟩⟩, fun q => ⟨?_, rfl⟩⟩
  · rw [e]; exact c77 (fz f b) (c + besS f b) (by omega)
  · rw [befB, q, beatsB]
    show _ = AV.bool (true && (!(meltS (fz f b) (c + besS f b)).2 || _))
    rw [q2]; rfl
  · rw [befB, q, beatsB]
    show _ = AV.bool (true && (!(meltS (fz f b) (c + besS f b)).2 || _))
    rw [q2]; rfl
  · rw [befB, q]; rfl)
end Go.Proofs.Ytbdbnpnichkcjaa
namespace Go.Proofs.Ytbdbnpnichkcjaa
open Go.RowKit
/-- Points that follow each other fall. -/
theorem steps_pair {l : List TFePoint} (h : stepsS l = 0) : l.Pairwise fun a b => a.Current < b.Current ∧ b.Melt.Lo ≤ a.Melt.Lo ∧ b.Melt.Hi ≤ a.Melt.Hi := by
  induction l with
  | nil => exact .nil
  | cons a r ih =>
    cases r with
    | nil => exact .cons (by simp) .nil
    | cons b r =>
      simp only [stepsS] at h
      split at h
      · cases h
      rename_i hs
      have hr := ih h
      simp only [stepB, Bool.or_eq_true, decide_eq_true_eq, not_or] at hs
      refine .cons (fun c hc => ?_) hr
      rcases List.mem_cons.1 hc with rfl | hc
      · omega
      · have := (List.pairwise_cons.1 hr).1 c hc; omega
theorem melt_some {x : TFeFuse} {c : Int} (h : (meltS x c).2 = true) : ∃ p ∈ x.Points, p.Current ≤ c ∧ (meltS x c).1 = p.Melt ∧ ∀ q ∈ x.Points, q.Current ≤ c → stepsS x.Points = 0 → p.Melt.Lo ≤ q.Melt.Lo ∧ p.Melt.Hi ≤ q.Melt.Hi := by
  unfold meltS at h ⊢
  cases hf : x.Points.reverse.find? (fun p => decide (p.Current ≤ c)) with
  | none => rw [hf] at h; cases h
  | some p =>
    have h1 := List.find?_some hf
    have h2 := List.mem_of_find?_eq_some hf
    refine ⟨p, List.mem_reverse.1 h2, by simpa using h1, rfl, fun q hq hqc hs => ?_⟩
    obtain ⟨l1, l2, hab, hno⟩ := (List.find?_eq_some_iff_append.1 hf).2
    have hpw := steps_pair hs
    have hx : x.Points = l2.reverse ++ (p :: l1.reverse) := by
      have := congrArg List.reverse hab
      rw [List.reverse_reverse] at this
      rw [this]; simp
    rw [hx] at hpw hq
    rcases List.mem_append.1 hq with hq | hq
    · have := (List.pairwise_append.1 hpw).2.2 q hq p (by simp); omega
    · rcases List.mem_cons.1 hq with rfl | hq
      · omega
      · have := hno q (List.mem_reverse.1 hq); simp at this; omega
theorem melt_none {x : TFeFuse} {c : Int} (h : (meltS x c).2 = false) : ∀ p ∈ x.Points, ¬ p.Current ≤ c := by
  unfold meltS at h
  cases hf : x.Points.reverse.find? (fun p => decide (p.Current ≤ c)) with
  | none =>
    intro p hp
    have := List.find?_eq_none.1 hf p (List.mem_reverse.2 hp)
    simpa using this
  | some p => rw [hf] at h; cases h
/-- At a higher current a fuse that opens, opens no later. -/
theorem melt_mono {x : TFeFuse} (hx : FuseOK x) {c d : Int} (hcd : c ≤ d) (h : (meltS x c).2 = true) : (meltS x d).2 = true ∧ (meltS x d).1.Lo ≤ (meltS x c).1.Lo ∧ (meltS x d).1.Hi ≤ (meltS x c).1.Hi ∧ (meltS x c).1.Lo ≤ (meltS x c).1.Hi := by
  obtain ⟨p, hp, hpc, hpm, _⟩ := melt_some h
  have h2 : (meltS x d).2 = true := by
    cases hh : (meltS x d).2 with
    | true => rfl
    | false => exact absurd (show p.Current ≤ d by omega) (melt_none hh p hp)
  obtain ⟨q, hq, hqc, hqm, hall⟩ := melt_some h2
  have := hall p hp (by omega) hx.steps
  have hw := (hx.pts p hp).2
  rw [hpm, hqm]
  exact ⟨h2, this.1, this.2, by omega⟩
/-- Two protections do not beat each other. -/
theorem beats_not {g o : TGuard} (hg : GOK g) (ho : GOK o) {c : Int} (mg : (meltS g.fuse c).2 = true) (mo : (meltS o.fuse c).2 = true) (h1 : beatsB g o c = true) (h2 : beatsB o g c = true) : False := by
  obtain ⟨a1, a2, a3, a4⟩ := melt_mono hg.fuse (show c ≤ c + g.besides by have := hg.bes; omega) mg
  obtain ⟨b1, b2, b3, b4⟩ := melt_mono ho.fuse (show c ≤ c + o.besides by have := ho.bes; omega) mo
  rw [beatsB, b1] at h1
  rw [beatsB, a1] at h2
  simp at h1 h2
  omega
def certN (f : TFeFeeder) (P : List Nat) (c : Int) (a : Nat) : Bool := (meltS (fz f a) c).2 && P.all fun b => b == a || beatsB (guardS f a) (guardS f b) c
theorem cert_unique {f : TFeFeeder} {P : List Nat} {c : Int} (hP : ∀ a ∈ P, GOK (guardS f a)) {a b : Nat} (ha : a ∈ P) (hb : b ∈ P) (h1 : certN f P c a = true) (h2 : certN f P c b = true) : a = b := by
  by_cases hab : a = b
  · exact hab
  · exfalso
    simp only [certN, Bool.and_eq_true, List.all_eq_true, Bool.or_eq_true, beq_iff_eq] at h1 h2
    exact beats_not (hP a ha) (hP b hb) h1.1 h2.1 ((h1.2 b hb).resolve_left fun e => hab e.symm) ((h2.2 a ha).resolve_left hab)
theorem find_rev {α : Type} {q : α → Bool} {l : List α} (h : ∀ a ∈ l, ∀ b ∈ l, q a = true → q b = true → a = b) : l.reverse.find? q = l.find? q := by
  cases h1 : l.find? q with
  | none =>
    rw [List.find?_eq_none] at h1 ⊢
    exact fun x hx => h1 x (List.mem_reverse.1 hx)
  | some a =>
    cases h2 : l.reverse.find? q with
    | none =>
      rw [List.find?_eq_none] at h2
      exact absurd (List.find?_some h1) (h2 a (List.mem_reverse.2 (List.mem_of_find?_eq_some h1)))
    | some b => rw [h b (List.mem_reverse.1 (List.mem_of_find?_eq_some h2)) a (List.mem_of_find?_eq_some h1) (List.find?_some h2) (List.find?_some h1)]
theorem upL_nodup {f : TFeFeeder} (hf : OK f) : ∀ {i : Nat}, i < f.Nodes.length → (upL f i).Nodup := by
  intro i
  induction i using Nat.strongRecOn with
  | ind i ih =>
    intro h
    by_cases h0 : i = 0
    · subst h0; exact .nil
    · have hp := (par_lt hf h h0).1
      rw [upL_succ hf h h0, List.nodup_cons]
      refine ⟨fun hm => ?_, ih _ hp (by omega)⟩
      have := upL_mem hf (by omega) hm; omega
def nodeOr (o : Option Nat) : Int := match o with
  | some a => (a : Nat)
  | none => -1
theorem firstG_find {f : TFeFeeder} {P : List Nat} {c : Int} (hn : P.Nodup) : ∀ (r : List Nat) (i : Nat), P.drop i = r → firstG (P.map (guardS f)) c i (r.map (guardS f)) = nodeOr (r.find? (certN f P c)) := by
  intro r
  induction r with
  | nil => intro i _; rfl
  | cons a r ih =>
    intro i hd
    have hi : i < P.length := by
      rcases Nat.lt_or_ge i P.length with h | h
      · exact h
      · rw [List.drop_of_length_le h] at hd; cases hd
    have hP : P = P.take i ++ a :: r := by rw [← hd]; exact (List.take_append_drop i P).symm
    have hd1 : P.drop (i + 1) = r := by rw [← List.tail_drop, hd]; rfl
    have hc : certB (P.map (guardS f)) c i (guardS f a) = certN f P c a := by
      unfold certB certN
      rw [← List.map_take, ← List.map_drop, hd1]
      have key : ∀ l : List Nat, a ∉ l → (!((l.map (guardS f)).any fun o => !beatsB (guardS f a) o c)) = l.all fun b => b == a || beatsB (guardS f a) (guardS f b) c := by
        intro l hl
        induction l with
        | nil => rfl
        | cons x l ih2 =>
          have hx : (x == a) = false := by simp; exact fun e => hl (by simp [e])
          have hl2 : a ∉ l := fun hm => hl (List.mem_cons_of_mem _ hm)
          simp only [List.map_cons, List.any_cons, List.all_cons, hx, Bool.false_or, ← ih2 hl2, Bool.not_or, Bool.not_not]
      have hnd := hn
      rw [hP, List.nodup_append] at hnd
      have h1 : a ∉ P.take i := fun hm => hnd.2.2 a hm a (by simp) rfl
      have h2 : a ∉ r := (List.nodup_cons.1 hnd.2.1).1
      rw [key _ h1, key _ h2]
      conv => rhs; rw [hP]
      rw [List.all_append, List.all_cons]
      have hP' : (P.take i ++ a :: r) = P := hP.symm
      rw [← hP']
      have e1 : (List.take i (P.take i ++ a :: r)) = P.take i := by rw [hP']
      simp only [beq_self_eq_true, Bool.true_or, Bool.true_and, Bool.and_assoc]
      first | rfl | (rw [e1]; rfl)
    simp only [List.map_cons, firstG, List.find?_cons, hc]
    cases certN f P c a with
    | true => rfl
    | false => simp only [Bool.false_eq_true, if_false]; exact ih (i + 1) hd1
def meltR (f : TFeFeeder) (k c : Int) : (TEncl × Bool) × Int := if (checkF f).2.2 ≠ 0 then ((.zero, false), (checkF f).2.2) else if !inB k 0 ((f.Fuses.length : Int) - 1) then ((.zero, false), 4) else if !inB c 0 1000000000 then ((.zero, false), 7) else (meltS (f.Fuses.getD k.toNat .zero) c, 0)
def meltT (r : (TEncl × Bool) × Int) : AV := .tup [r.1.1.av, .bool r.1.2, .int .i64 r.2]
theorem fuse_get {f : TFeFeeder} {k : Int} (h : 0 ≤ k ∧ k ≤ (f.Fuses.length : Int) - 1) : f.Fuses[k.toNat]? = some (f.Fuses.getD k.toNat .zero) := by
  rw [List.getD, List.getElem?_eq_getElem (by omega)]; rfl
def R27 (f : TFeFeeder) (fuse : Int) (current : Int) (S : SpecF) (_Fr : FuncId → List AV → Nat → List AV → Prop) (_Sq : FuncId → List AV → List (List AV) → List (List AV) → Prop) (Q : AV → List (List AV) → Prop) : Prop :=
  ∃ n0 n1 n2, S (15 : Nat) [f.av] [] (AV.tup [AV.int .i64 n0, AV.int .i64 n1, AV.int .i64 n2]) [] ∧ ((n2 != (0 : Int)) = true → Q (AV.tup [TEncl.zero.av, AV.bool false, AV.int .i64 n2]) []) ∧ ((n2 != (0 : Int)) = false → ∃ b6, S (43 : Nat) [AV.int .i64 fuse, AV.int .i64 (0 : Int), AV.int .i64 (IntKind.i64.wrap ((↑(List.map TFeFuse.av f.Fuses).length : Int) - (1 : Int)))] [] (AV.bool b6) [] ∧ ((!b6) = true → Q (AV.tup [TEncl.zero.av, AV.bool false, AV.int .i64 (4 : Int)]) []) ∧ ((!b6) = false → ∃ b10, S (43 : Nat) [AV.int .i64 current, AV.int .i64 (0 : Int), AV.int .i64 (1000000000 : Int)] [] (AV.bool b10) [] ∧ ((!b10) = true → Q (AV.tup [TEncl.zero.av, AV.bool false, AV.int .i64 (7 : Int)]) []) ∧ ((!b10) = false → ∃ s14 n15 es16, ((0 : Int) ≤ fuse ∧ (3 : Nat) = (3 : Nat) ∧ (List.map TFeFuse.av f.Fuses)[fuse.toNat]? = some (AV.agg [AV.str s14, AV.int .i64 n15, AV.slc (3 : Nat) es16])) ∧ ∃ n18 n19 b20, S (76 : Nat) [AV.agg [AV.str s14, AV.int .i64 n15, AV.slc (3 : Nat) es16], AV.int .i64 current] [] (AV.tup [AV.agg [AV.int .i64 n18, AV.int .i64 n19], AV.bool b20]) [] ∧ Q (AV.tup [AV.agg [AV.int .i64 n18, AV.int .i64 n19], AV.bool b20, AV.int .i64 (0 : Int)]) [])))
theorem r27 (f : TFeFeeder) (fuse : Int) (current : Int) (S : SpecF) (Fr : FuncId → List AV → Nat → List AV → Prop) (Sq : FuncId → List AV → List (List AV) → List (List AV) → Prop) (Q : AV → List (List AV) → Prop) : awpF Try.prog (mkS Try.prog S Fr Sq ⟨[], [], [], [], []⟩ 0) 0 ⟨[0, 1, 2, 3, 6, 7, 8, 15, 20, 29], [], [], []⟩ Try.f27 [f.av, .int .i64 fuse, .int .i64 current] [] Q = R27 f fuse current S Fr Sq Q := by kernel_rfl
theorem s27 (f : TFeFeeder) (fuse : Int) (current : Int) (v : AV) (O : List (List AV)) (h : R27 f fuse current (SpecOf Try.prog) (FreshOf Try.prog) (SeqOf Try.prog) (fun r O' => r = v ∧ O' = O)) : SpecOf Try.prog 27 [f.av, .int .i64 fuse, .int .i64 current] [] v O :=
  spec_by (boxes := []) mixed (by exact trivial) Try.func27 Try.call27 rfl rfl rfl (Nat.le_of_ble_eq_true rfl) (r27 f fuse current (SpecOf Try.prog) (FreshOf Try.prog) (SeqOf Try.prog) _) h
theorem c27 (f : TFeFeeder) (hn : NOK f) (k c : Int) : Sp 27 [f.av, .int .i64 k, .int .i64 c] [] (meltT (meltR f k c)) [] := s27 f k c _ _ (by
  unfold R27
  refine ⟨_, _, _, c15 f hn, fun h => ⟨?_, rfl⟩, fun h => ?_⟩
  · have h : (checkF f).2.2 ≠ 0 := by simpa using h
    rw [meltR, if_pos h]; rfl
  have h : ¬ (checkF f).2.2 ≠ 0 := by simpa using h
  have hk := ok_of (Decidable.not_not.1 h)
  have e : IntKind.i64.wrap (((List.map TFeFuse.av f.Fuses).length : Int) - 1) = (f.Fuses.length : Int) - 1 := by rw [List.length_map]; exact i64 (by have := hk.nf; omega)
  rw [e]
  refine ⟨_, c43 _ _ _, fun h2 => ⟨?_, rfl⟩, fun h2 => ⟨_, c43 _ _ _, fun h3 => ⟨?_, rfl⟩, fun h3 => ?_⟩⟩
  · rw [meltR, if_neg h, if_pos h2]; rfl
  · rw [meltR, if_neg h, if_neg (by rw [h2]; simp), if_pos h3]; rfl
  · rw [meltR, if_neg h, if_neg (by rw [h2]; simp), if_neg (by rw [h3]; simp)]
    have hb := inB_iff.1 (by simpa using h2 : inB k 0 ((f.Fuses.length : Int) - 1) = true)
    have hg := fuse_get hb
    have hl := (fuse_ok hk hg).len
    generalize f.Fuses.getD k.toNat .zero = x at hg hl
    exact ⟨x.Name, x.Rated, List.map TFePoint.av x.Points, ⟨hb.1, rfl, by rw [List.getElem?_map, hg]; rfl⟩, _, _, _, c76 x c (by omega), rfl, rfl⟩)
def R28 (f : TFeFeeder) (fuse : Int) (current : Int) (S : SpecF) (_Fr : FuncId → List AV → Nat → List AV → Prop) (_Sq : FuncId → List AV → List (List AV) → List (List AV) → Prop) (Q : AV → List (List AV) → Prop) : Prop :=
  ∃ n0 n1 n2, S (16 : Nat) [f.av] [] (AV.tup [AV.int .i64 n0, AV.int .i64 n1, AV.int .i64 n2]) [] ∧ ((n2 == (0 : Int)) = true → ∃ b6, S (55 : Nat) [AV.int .i64 fuse, AV.int .i64 (0 : Int), AV.int .i64 (IntKind.i64.wrap ((↑(List.map TFeFuse.av f.Fuses).length : Int) - (1 : Int)))] [] (AV.bool b6) [] ∧ ((!b6) = true → Q (AV.tup [TEncl.zero.av, AV.bool false, AV.int .i64 (4 : Int)]) []) ∧ ((!b6) = false → ((n2 == (0 : Int)) = true → ∃ b12, S (55 : Nat) [AV.int .i64 current, AV.int .i64 (0 : Int), AV.int .i64 (1000000000 : Int)] [] (AV.bool b12) [] ∧ ((!b12) = true → Q (AV.tup [TEncl.zero.av, AV.bool false, AV.int .i64 (7 : Int)]) []) ∧ ((!b12) = false → ((n2 != (0 : Int)) = true → Q (AV.tup [TEncl.zero.av, AV.bool false, AV.int .i64 n2]) []) ∧ ((n2 != (0 : Int)) = false → ∃ s18 n19 es20, ((0 : Int) ≤ fuse ∧ (3 : Nat) = (3 : Nat) ∧ (List.map TFeFuse.av f.Fuses)[fuse.toNat]? = some (AV.agg [AV.str s18, AV.int .i64 n19, AV.slc (3 : Nat) es20])) ∧ ∃ n22 n23 b24, S (77 : Nat) [AV.agg [AV.str s18, AV.int .i64 n19, AV.slc (3 : Nat) es20], AV.int .i64 current] [] (AV.tup [AV.agg [AV.int .i64 n22, AV.int .i64 n23], AV.bool b24]) [] ∧ Q (AV.tup [AV.agg [AV.int .i64 n22, AV.int .i64 n23], AV.bool b24, AV.int .i64 (0 : Int)]) []))) ∧ ((n2 == (0 : Int)) = false → ((n2 != (0 : Int)) = true → Q (AV.tup [TEncl.zero.av, AV.bool false, AV.int .i64 n2]) []) ∧ ((n2 != (0 : Int)) = false → ∃ s14 n15 es16, ((0 : Int) ≤ fuse ∧ (3 : Nat) = (3 : Nat) ∧ (List.map TFeFuse.av f.Fuses)[fuse.toNat]? = some (AV.agg [AV.str s14, AV.int .i64 n15, AV.slc (3 : Nat) es16])) ∧ ∃ n18 n19 b20, S (77 : Nat) [AV.agg [AV.str s14, AV.int .i64 n15, AV.slc (3 : Nat) es16], AV.int .i64 current] [] (AV.tup [AV.agg [AV.int .i64 n18, AV.int .i64 n19], AV.bool b20]) [] ∧ Q (AV.tup [AV.agg [AV.int .i64 n18, AV.int .i64 n19], AV.bool b20, AV.int .i64 (0 : Int)]) [])))) ∧ ((n2 == (0 : Int)) = false → ((n2 == (0 : Int)) = true → ∃ b8, S (55 : Nat) [AV.int .i64 current, AV.int .i64 (0 : Int), AV.int .i64 (1000000000 : Int)] [] (AV.bool b8) [] ∧ ((!b8) = true → Q (AV.tup [TEncl.zero.av, AV.bool false, AV.int .i64 (7 : Int)]) []) ∧ ((!b8) = false → ((n2 != (0 : Int)) = true → Q (AV.tup [TEncl.zero.av, AV.bool false, AV.int .i64 n2]) []) ∧ ((n2 != (0 : Int)) = false → ∃ s14 n15 es16, ((0 : Int) ≤ fuse ∧ (3 : Nat) = (3 : Nat) ∧ (List.map TFeFuse.av f.Fuses)[fuse.toNat]? = some (AV.agg [AV.str s14, AV.int .i64 n15, AV.slc (3 : Nat) es16])) ∧ ∃ n18 n19 b20, S (77 : Nat) [AV.agg [AV.str s14, AV.int .i64 n15, AV.slc (3 : Nat) es16], AV.int .i64 current] [] (AV.tup [AV.agg [AV.int .i64 n18, AV.int .i64 n19], AV.bool b20]) [] ∧ Q (AV.tup [AV.agg [AV.int .i64 n18, AV.int .i64 n19], AV.bool b20, AV.int .i64 (0 : Int)]) []))) ∧ ((n2 == (0 : Int)) = false → ((n2 != (0 : Int)) = true → Q (AV.tup [TEncl.zero.av, AV.bool false, AV.int .i64 n2]) []) ∧ ((n2 != (0 : Int)) = false → ∃ s10 n11 es12, ((0 : Int) ≤ fuse ∧ (3 : Nat) = (3 : Nat) ∧ (List.map TFeFuse.av f.Fuses)[fuse.toNat]? = some (AV.agg [AV.str s10, AV.int .i64 n11, AV.slc (3 : Nat) es12])) ∧ ∃ n14 n15 b16, S (77 : Nat) [AV.agg [AV.str s10, AV.int .i64 n11, AV.slc (3 : Nat) es12], AV.int .i64 current] [] (AV.tup [AV.agg [AV.int .i64 n14, AV.int .i64 n15], AV.bool b16]) [] ∧ Q (AV.tup [AV.agg [AV.int .i64 n14, AV.int .i64 n15], AV.bool b16, AV.int .i64 (0 : Int)]) [])))
theorem r28 (f : TFeFeeder) (fuse : Int) (current : Int) (S : SpecF) (Fr : FuncId → List AV → Nat → List AV → Prop) (Sq : FuncId → List AV → List (List AV) → List (List AV) → Prop) (Q : AV → List (List AV) → Prop) : awpF Try.prog (mkS Try.prog S Fr Sq ⟨[], [], [], [], []⟩ 0) 0 ⟨[0, 1, 2, 3, 6, 7, 8, 11, 12, 13, 30, 37, 39], [], [], []⟩ Try.f28 [f.av, .int .i64 fuse, .int .i64 current] [] Q = R28 f fuse current S Fr Sq Q := by kernel_rfl
theorem s28 (f : TFeFeeder) (fuse : Int) (current : Int) (v : AV) (O : List (List AV)) (h : R28 f fuse current (SpecOf Try.prog) (FreshOf Try.prog) (SeqOf Try.prog) (fun r O' => r = v ∧ O' = O)) : SpecOf Try.prog 28 [f.av, .int .i64 fuse, .int .i64 current] [] v O :=
  spec_by (boxes := []) mixed (by exact trivial) Try.func28 Try.call28 rfl rfl rfl (Nat.le_of_ble_eq_true rfl) (r28 f fuse current (SpecOf Try.prog) (FreshOf Try.prog) (SeqOf Try.prog) _) h
theorem c28 (f : TFeFeeder) (hn : NOK f) (k c : Int) : Sp 28 [f.av, .int .i64 k, .int .i64 c] [] (meltT (meltR f k c)) [] := s28 f k c _ _ (by
  unfold R28
  refine ⟨_, _, _, c16 f hn, fun h => ?_, fun h => ⟨fun h' => ?_, fun h' => ⟨fun _ => ⟨?_, rfl⟩, fun h'' => ?_⟩⟩⟩
  · have h' : ¬ (checkF f).2.2 ≠ 0 := by simpa using h
    have hk := ok_of (Decidable.not_not.1 h')
    have e : IntKind.i64.wrap (((List.map TFeFuse.av f.Fuses).length : Int) - 1) = (f.Fuses.length : Int) - 1 := by rw [List.length_map]; exact i64 (by have := hk.nf; omega)
    rw [e]
    refine ⟨_, c55 _ _ _, fun h2 => ⟨?_, rfl⟩, fun h2 => ⟨fun _ => ⟨_, c55 _ _ _, fun h3 => ⟨?_, rfl⟩, fun h3 => ⟨fun h4 => ?_, fun _ => ?_⟩⟩, fun h4 => ?_⟩⟩
    · rw [meltR, if_neg h', if_pos h2]; rfl
    · rw [meltR, if_neg h', if_neg (by rw [h2]; simp), if_pos h3]; rfl
    · exact absurd (Decidable.not_not.1 h') (by simpa using h4)
    · rw [meltR, if_neg h', if_neg (by rw [h2]; simp), if_neg (by rw [h3]; simp)]
      have hb := inB_iff.1 (by simpa using h2 : inB k 0 ((f.Fuses.length : Int) - 1) = true)
      have hg := fuse_get hb
      have hl := (fuse_ok hk hg).len
      generalize f.Fuses.getD k.toNat .zero = x at hg hl
      exact ⟨x.Name, x.Rated, List.map TFePoint.av x.Points, ⟨hb.1, rfl, by rw [List.getElem?_map, hg]; rfl⟩, _, _, _, c77 x c (by omega), rfl, rfl⟩
    · rw [h] at h4; cases h4
  · rw [h] at h'; cases h'
  · have h : (checkF f).2.2 ≠ 0 := by simpa using h
    rw [meltR, if_pos h]; rfl
  · exact absurd (by simpa using h'' : (checkF f).2.2 = 0) (by simpa using h))
end Go.Proofs.Ytbdbnpnichkcjaa
namespace Go.Proofs.Ytbdbnpnichkcjaa
open Go.RowKit
theorem find_dropN {q : Nat → Bool} {l : List Nat} {i a : Nat} (h : l[i]? = some a) : (l.drop i).find? q = if q a then some a else (l.drop (i + 1)).find? q := find_at h
def stB (f : TFeFeeder) (c : Int) (a : Nat) (l : List Nat) : Bool := (meltS (fz f a) c).2 && l.all fun b => b == a || befB f a b c
theorem stB_take {f : TFeFeeder} {c : Int} {a k b : Nat} {l : List Nat} (h : l[k]? = some b) : stB f c a (l.take (k + 1)) = (stB f c a (l.take k) && (b == a || befB f a b c)) := by
  unfold stB
  rw [List.take_add_one, h, List.all_append]
  simp only [Option.toList, List.all_cons, List.all_nil, Bool.and_true, Bool.and_assoc]
theorem stB_cert {f : TFeFeeder} {c : Int} {a : Nat} {P : List Nat} : stB f c a P.reverse = certN f P c a := by
  unfold stB certN
  rw [List.all_reverse]
  cases hm : (meltS (fz f a) c).2 with
  | false => rfl
  | true =>
    simp only [Bool.true_and]
    congr 1
    funext b
    rw [befB, hm, Bool.true_and]
theorem nodup_idx {l : List Nat} (h : l.Nodup) {i j a : Nat} (hi : l[i]? = some a) (hj : l[j]? = some a) : i = j := by
  obtain ⟨q1, q2⟩ := List.getElem?_eq_some_iff.1 hi
  obtain ⟨q3, q4⟩ := List.getElem?_eq_some_iff.1 hj
  rw [List.Nodup, List.pairwise_iff_getElem] at h
  rcases Nat.lt_trichotomy i j with hlt | heq | hgt
  · exact absurd (q2.trans q4.symm) (h i j q1 q3 hlt)
  · exact heq
  · exact absurd (q4.trans q2.symm) (h j i q3 q1 hgt)
def R32 (f : TFeFeeder) (node : Int) (current : Int) (S : SpecF) (_Fr : FuncId → List AV → Nat → List AV → Prop) (_Sq : FuncId → List AV → List (List AV) → List (List AV) → Prop) (Q : AV → List (List AV) → Prop) : Prop :=
  ∃ n0, S (63 : Nat) [f.av, AV.int .i64 node, AV.bool false] [] (AV.int .i64 n0) [] ∧ ((n0 == (0 : Int)) = true → ∃ b4, S (55 : Nat) [AV.int .i64 current, AV.int .i64 (0 : Int), AV.int .i64 (1000000000 : Int)] [] (AV.bool b4) [] ∧ ((!b4) = true → Q (AV.tup [AV.int .i64 (0 : Int), AV.int .i64 (7 : Int)]) []) ∧ ((!b4) = false → ((n0 != (0 : Int)) = true → Q (AV.tup [AV.int .i64 (0 : Int), AV.int .i64 n0]) []) ∧ ((n0 != (0 : Int)) = false → ∃ es10, S (82 : Nat) [f.av, AV.int .i64 node] [] (AV.slc (3 : Nat) es10) [] ∧ ∃ (I12 : Nat → List AV → Prop), (∃ m14, I12 m14 [AV.int .i64 (0 : Int)]) ∧ ∀ (m14 : Nat) (n15 : Int), I12 m14 [AV.int .i64 n15] → (decide (n15 < (↑es10.length : Int)) = true → ∃ n19, ((0 : Int) ≤ n15 ∧ (1 : Nat) = (1 : Nat) ∧ es10[n15.toNat]? = some (AV.int .i64 n19)) ∧ ∃ s21 n22 n23 n24 n25 n26 n27 n28 n29 n30 n31, ((0 : Int) ≤ n19 ∧ (11 : Nat) = (11 : Nat) ∧ (List.map TFeNode.av f.Nodes)[n19.toNat]? = some (AV.agg [AV.str s21, AV.int .i64 n22, AV.int .i64 n23, AV.int .i64 n24, AV.int .i64 n25, AV.int .i64 n26, AV.int .i64 n27, AV.int .i64 n28, AV.int .i64 n29, AV.int .i64 n30, AV.int .i64 n31])) ∧ ∃ s33 n34 es35, ((0 : Int) ≤ n25 ∧ (3 : Nat) = (3 : Nat) ∧ (List.map TFeFuse.av f.Fuses)[n25.toNat]? = some (AV.agg [AV.str s33, AV.int .i64 n34, AV.slc (3 : Nat) es35])) ∧ ∃ n37 n38 b39, S (77 : Nat) [AV.agg [AV.str s33, AV.int .i64 n34, AV.slc (3 : Nat) es35], AV.int .i64 current] [] (AV.tup [AV.agg [AV.int .i64 n37, AV.int .i64 n38], AV.bool b39]) [] ∧ ∃ (I41 : Nat → List AV → Prop), (∃ m43, I41 m43 [AV.bool b39, AV.int .i64 (0 : Int)]) ∧ ∀ (m43 : Nat) (b44 : Bool) (n45 : Int), I41 m43 [AV.bool b44, AV.int .i64 n45] → (decide (n45 < (↑es10.length : Int)) = true → (b44 = true → ((n45 == n15) = true → f.cs = f.cs ∧ [AV.int .i64 n37, AV.int .i64 n38] = [AV.int .i64 n37, AV.int .i64 n38] ∧ ∃ k55, k55 < m43 ∧ I41 k55 [AV.bool true, AV.int .i64 (IntKind.i64.wrap (n45 + (1 : Int)))]) ∧ ((n45 == n15) = false → ∃ n53, ((0 : Int) ≤ n15 ∧ (1 : Nat) = (1 : Nat) ∧ es10[n15.toNat]? = some (AV.int .i64 n53)) ∧ ∃ n55, ((0 : Int) ≤ n45 ∧ (1 : Nat) = (1 : Nat) ∧ es10[n45.toNat]? = some (AV.int .i64 n55)) ∧ ∃ b57, S (83 : Nat) [f.av, AV.int .i64 n53, AV.int .i64 n55, AV.int .i64 current] [] (AV.bool b57) [] ∧ f.cs = f.cs ∧ [AV.int .i64 n37, AV.int .i64 n38] = [AV.int .i64 n37, AV.int .i64 n38] ∧ ∃ k61, k61 < m43 ∧ I41 k61 [AV.bool b57, AV.int .i64 (IntKind.i64.wrap (n45 + (1 : Int)))])) ∧ (b44 = false → f.cs = f.cs ∧ [AV.int .i64 n37, AV.int .i64 n38] = [AV.int .i64 n37, AV.int .i64 n38] ∧ ∃ k53, k53 < m43 ∧ I41 k53 [AV.bool false, AV.int .i64 (IntKind.i64.wrap (n45 + (1 : Int)))])) ∧ (decide (n45 < (↑es10.length : Int)) = false → (b44 = true → ∃ n51, ((0 : Int) ≤ n15 ∧ (1 : Nat) = (1 : Nat) ∧ es10[n15.toNat]? = some (AV.int .i64 n51)) ∧ Q (AV.tup [AV.int .i64 n51, AV.int .i64 (0 : Int)]) []) ∧ (b44 = false → f.cs = f.cs ∧ ∃ k52, k52 < m14 ∧ I12 k52 [AV.int .i64 (IntKind.i64.wrap (n15 + (1 : Int)))]))) ∧ (decide (n15 < (↑es10.length : Int)) = false → Q (AV.tup [AV.int .i64 (-1 : Int), AV.int .i64 (0 : Int)]) [])))) ∧ ((n0 == (0 : Int)) = false → ((n0 != (0 : Int)) = true → Q (AV.tup [AV.int .i64 (0 : Int), AV.int .i64 n0]) []) ∧ ((n0 != (0 : Int)) = false → ∃ es6, S (82 : Nat) [f.av, AV.int .i64 node] [] (AV.slc (3 : Nat) es6) [] ∧ ∃ (I8 : Nat → List AV → Prop), (∃ m10, I8 m10 [AV.int .i64 (0 : Int)]) ∧ ∀ (m10 : Nat) (n11 : Int), I8 m10 [AV.int .i64 n11] → (decide (n11 < (↑es6.length : Int)) = true → ∃ n15, ((0 : Int) ≤ n11 ∧ (1 : Nat) = (1 : Nat) ∧ es6[n11.toNat]? = some (AV.int .i64 n15)) ∧ ∃ s17 n18 n19 n20 n21 n22 n23 n24 n25 n26 n27, ((0 : Int) ≤ n15 ∧ (11 : Nat) = (11 : Nat) ∧ (List.map TFeNode.av f.Nodes)[n15.toNat]? = some (AV.agg [AV.str s17, AV.int .i64 n18, AV.int .i64 n19, AV.int .i64 n20, AV.int .i64 n21, AV.int .i64 n22, AV.int .i64 n23, AV.int .i64 n24, AV.int .i64 n25, AV.int .i64 n26, AV.int .i64 n27])) ∧ ∃ s29 n30 es31, ((0 : Int) ≤ n21 ∧ (3 : Nat) = (3 : Nat) ∧ (List.map TFeFuse.av f.Fuses)[n21.toNat]? = some (AV.agg [AV.str s29, AV.int .i64 n30, AV.slc (3 : Nat) es31])) ∧ ∃ n33 n34 b35, S (77 : Nat) [AV.agg [AV.str s29, AV.int .i64 n30, AV.slc (3 : Nat) es31], AV.int .i64 current] [] (AV.tup [AV.agg [AV.int .i64 n33, AV.int .i64 n34], AV.bool b35]) [] ∧ ∃ (I37 : Nat → List AV → Prop), (∃ m39, I37 m39 [AV.bool b35, AV.int .i64 (0 : Int)]) ∧ ∀ (m39 : Nat) (b40 : Bool) (n41 : Int), I37 m39 [AV.bool b40, AV.int .i64 n41] → (decide (n41 < (↑es6.length : Int)) = true → (b40 = true → ((n41 == n11) = true → f.cs = f.cs ∧ [AV.int .i64 n33, AV.int .i64 n34] = [AV.int .i64 n33, AV.int .i64 n34] ∧ ∃ k51, k51 < m39 ∧ I37 k51 [AV.bool true, AV.int .i64 (IntKind.i64.wrap (n41 + (1 : Int)))]) ∧ ((n41 == n11) = false → ∃ n49, ((0 : Int) ≤ n11 ∧ (1 : Nat) = (1 : Nat) ∧ es6[n11.toNat]? = some (AV.int .i64 n49)) ∧ ∃ n51, ((0 : Int) ≤ n41 ∧ (1 : Nat) = (1 : Nat) ∧ es6[n41.toNat]? = some (AV.int .i64 n51)) ∧ ∃ b53, S (83 : Nat) [f.av, AV.int .i64 n49, AV.int .i64 n51, AV.int .i64 current] [] (AV.bool b53) [] ∧ f.cs = f.cs ∧ [AV.int .i64 n33, AV.int .i64 n34] = [AV.int .i64 n33, AV.int .i64 n34] ∧ ∃ k57, k57 < m39 ∧ I37 k57 [AV.bool b53, AV.int .i64 (IntKind.i64.wrap (n41 + (1 : Int)))])) ∧ (b40 = false → f.cs = f.cs ∧ [AV.int .i64 n33, AV.int .i64 n34] = [AV.int .i64 n33, AV.int .i64 n34] ∧ ∃ k49, k49 < m39 ∧ I37 k49 [AV.bool false, AV.int .i64 (IntKind.i64.wrap (n41 + (1 : Int)))])) ∧ (decide (n41 < (↑es6.length : Int)) = false → (b40 = true → ∃ n47, ((0 : Int) ≤ n11 ∧ (1 : Nat) = (1 : Nat) ∧ es6[n11.toNat]? = some (AV.int .i64 n47)) ∧ Q (AV.tup [AV.int .i64 n47, AV.int .i64 (0 : Int)]) []) ∧ (b40 = false → f.cs = f.cs ∧ ∃ k48, k48 < m10 ∧ I8 k48 [AV.int .i64 (IntKind.i64.wrap (n11 + (1 : Int)))]))) ∧ (decide (n11 < (↑es6.length : Int)) = false → Q (AV.tup [AV.int .i64 (-1 : Int), AV.int .i64 (0 : Int)]) [])))
theorem r32 (f : TFeFeeder) (node : Int) (current : Int) (S : SpecF) (Fr : FuncId → List AV → Nat → List AV → Prop) (Sq : FuncId → List AV → List (List AV) → List (List AV) → Prop) (Q : AV → List (List AV) → Prop) : awpF Try.prog (mkS Try.prog S Fr Sq ⟨[], [], [], [], []⟩ 0) 0 ⟨[0, 1, 2, 3, 6, 7, 8, 9, 10, 12, 13, 23, 25, 33, 57, 79], [⟨8, [(10, .int .i64 0)], [], [], [], []⟩, ⟨12, [(12, .bool false), (13, .int .i64 0)], [], [], [], []⟩], [], []⟩ Try.f32 [f.av, .int .i64 node, .int .i64 current] [] Q = R32 f node current S Fr Sq Q := by kernel_rfl
theorem s32 (f : TFeFeeder) (node : Int) (current : Int) (v : AV) (O : List (List AV)) (h : R32 f node current (SpecOf Try.prog) (FreshOf Try.prog) (SeqOf Try.prog) (fun r O' => r = v ∧ O' = O)) : SpecOf Try.prog 32 [f.av, .int .i64 node, .int .i64 current] [] v O :=
  spec_by (boxes := []) mixed (by exact trivial) Try.func32 Try.call32 rfl rfl rfl (Nat.le_of_ble_eq_true rfl) (r32 f node current (SpecOf Try.prog) (FreshOf Try.prog) (SeqOf Try.prog) _) h
theorem c32 (f : TFeFeeder) (hn : NOK f) (node c : Int) : Sp 32 [f.av, .int .i64 node, .int .i64 c] [] (.tup [.int .i64 (firstR f node c).1, .int .i64 (firstR f node c).2]) [] := s32 f node c _ _ (by
  have h63 := c63 f hn node false
  rw [if_neg (by simp)] at h63
  unfold R32
  refine ⟨_, h63, fun h => ⟨_, c55 _ _ _, fun h2 => ⟨?_, rfl⟩, fun h2 => ⟨fun h3 => ?_, fun _ => ?_⟩⟩, fun h => ⟨fun h3 => ⟨?_, rfl⟩, fun h3 => ?_⟩⟩
  · have h : ¬ askedS f node ≠ 0 := by simpa using h
    rw [firstR, if_neg h, if_pos h2]
  · exact absurd (by simpa using h : askedS f node = 0) (by simpa using h3)
  · have h : askedS f node = 0 := by simpa using h
    have h2' : ¬ (!inB c 0 1000000000) = true := by rw [h2]; simp
    obtain ⟨hf, x, rfl, hx⟩ := asked_ok h
    have hp := inB_iff.1 (by simpa using h2 : inB c 0 1000000000 = true)
    have hnd : (gn f x).Nodup := List.Pairwise.filter _ (upL_nodup hf hx)
    have hgk : ∀ a ∈ gn f x, GOK (guardS f a) := fun a ha => by
      have := gn_mem hf hx ha
      exact guard_ok hf this.2.1 this.1 (by simpa [hasF] using this.2.2)
    have hR : firstR f x c = (nodeOr ((gn f x).reverse.find? (certN f (gn f x) c)), 0) := by
      rw [firstR, if_neg (by omega), if_neg h2']
      rw [find_rev fun a ha b hb h1 h2 => cert_unique hgk ha hb h1 h2, Int.toNat_natCast, guards_gn, firstG_find hnd (gn f x) 0 rfl]
    rw [hR]
    have hmem : ∀ a ∈ (gn f x).reverse, a ≠ 0 ∧ a < f.Nodes.length ∧ 0 ≤ (nd f a).Fuse := fun a ha => gn_mem hf hx (List.mem_reverse.1 ha)
    have hl : (gn f x).reverse.length ≤ 40 := by rw [List.length_reverse]; exact Nat.le_trans (List.length_filter_le _ _) (upL_len40 hf hx)
    have h82 := c82 hf x hx
    have hcert : ∀ a, certN f (gn f x) c a = stB f c a (gn f x).reverse := fun a => stB_cert.symm
    have hndR : (gn f x).reverse.Nodup := by unfold List.Nodup at hnd ⊢; rw [List.pairwise_reverse]; exact hnd.imp fun h => Ne.symm h
    simp only [hcert]
    rw [show (certN f (gn f x) c) = (fun a => stB f c a (gn f x).reverse) from funext hcert]
    generalize (gn f x).reverse = L at hmem hl h82 hndR
    refine ⟨_, h82, ?_⟩
    simp only [List.length_map]
    refine ⟨fun m vs => ∃ i : Nat, i ≤ L.length ∧ m = L.length - i ∧ vs = [.int .i64 i] ∧ (L.drop i).find? (fun a => stB f c a L) = L.find? (fun a => stB f c a L), ⟨_, 0, by omega, rfl, rfl, rfl⟩, ?_⟩
    rintro m n ⟨i, hi, rfl, hv, hd⟩
    cases hv
    refine ⟨fun g => ?_, fun g => ⟨?_, trivial⟩⟩
    · have g : i < L.length := by simpa using g
      obtain ⟨a, ha, ha'⟩ := map_getN (f := nI) g
      obtain ⟨a1, a2, a3⟩ := hmem a (List.mem_of_getElem? ha)
      have lf := (fuse_ok hf (fz_get hf a2 a1 a3)).len
      have hfd := find_dropN (q := fun a => stB f c a L) ha
      refine ⟨a, ⟨by omega, trivial, ha'⟩, (nd f a).Name, (nd f a).Parent, (nd f a).Cable, (nd f a).Length, (nd f a).Fuse, (nd f a).Loads0.Lo, (nd f a).Loads0.Hi, (nd f a).Loads1.Lo, (nd f a).Loads1.Hi, (nd f a).Loads2.Lo, (nd f a).Loads2.Hi, ⟨by omega, trivial, nd_av a2⟩, (fz f a).Name, (fz f a).Rated, List.map TFePoint.av (fz f a).Points, ⟨a3, trivial, fz_av hf a2 a1 a3⟩, _, _, _, c77 (fz f a) c (by omega), ?_⟩
      refine ⟨fun m vs => ∃ k : Nat, k ≤ L.length ∧ m = L.length - k ∧ vs = [.bool (stB f c a (L.take k)), .int .i64 k], ⟨_, 0, by omega, rfl, ?_⟩, ?_⟩
      · simp [stB]
      rintro m b n ⟨k, hk, rfl, hv⟩
      cases hv
      refine ⟨fun g2 => ?_, fun g2 => ?_⟩
      · have g2 : k < L.length := by simpa using g2
        obtain ⟨b, hb, hb'⟩ := map_getN (f := nI) g2
        have hs := stB_take (f := f) (c := c) (a := a) hb
        have fin : ∀ q : Bool, q = stB f c a (L.take (k + 1)) → ∃ m', m' < L.length - k ∧ ∃ j : Nat, j ≤ L.length ∧ m' = L.length - j ∧ [AV.bool q, .int .i64 (IntKind.i64.wrap ((k : Int) + 1))] = [.bool (stB f c a (L.take j)), .int .i64 j] := fun q hq =>
          ⟨_, (by omega : L.length - (k + 1) < L.length - k), k + 1, by omega, rfl, by rw [hq, wrapN (by omega)]⟩
        have hidx : (k = i) ↔ (b = a) := by
          constructor
          · intro e; subst e; rw [ha] at hb; cases hb; rfl
          · intro e; subst e
            obtain ⟨q1, q2⟩ := List.getElem?_eq_some_iff.1 hb
            obtain ⟨q3, q4⟩ := List.getElem?_eq_some_iff.1 ha
            exact nodup_idx hndR hb ha
        refine ⟨fun q1 => ⟨fun q2 => ?_, fun q2 => ⟨a, ⟨by omega, trivial, ha'⟩, b, ⟨by omega, trivial, hb'⟩, _, c83 hf a b ⟨a1, a2, a3⟩ (hmem b (List.mem_of_getElem? hb)) c (by omega), ?_⟩⟩, fun q1 => ?_⟩
        · have e : b = a := hidx.1 (by simp at q2; omega)
          have ff := fin true (by rw [hs, q1, e]; simp)
          first | exact ff | exact ⟨trivial, ff⟩ | exact ⟨trivial, trivial, ff⟩ | exact ⟨rfl, rfl, ff⟩
        · have e : ¬ b = a := fun e => by
            have := hidx.2 e
            simp at q2; omega
          have ff := fin (befB f a b c) (by rw [hs, q1, show (b == a) = false from by simpa using e]; simp)
          first | exact ff | exact ⟨trivial, ff⟩ | exact ⟨trivial, trivial, ff⟩ | exact ⟨rfl, rfl, ff⟩
        · have ff := fin false (by rw [hs, q1]; simp)
          first | exact ff | exact ⟨trivial, ff⟩ | exact ⟨trivial, trivial, ff⟩ | exact ⟨rfl, rfl, ff⟩
      · have : k = L.length := by simp at g2; omega
        subst this
        rw [List.take_length]
        refine ⟨fun q1 => ⟨a, ⟨by omega, trivial, ha'⟩, ?_, trivial⟩, fun q1 => ?_⟩
        · rw [← hd, hfd, if_pos q1]; rfl
        · have ff : ∃ m', m' < L.length - i ∧ ∃ j : Nat, j ≤ L.length ∧ m' = L.length - j ∧ [AV.int .i64 (IntKind.i64.wrap ((i : Int) + 1))] = [.int .i64 j] ∧ (L.drop j).find? (fun a => stB f c a L) = L.find? (fun a => stB f c a L) :=
            ⟨_, (by omega : L.length - (i + 1) < L.length - i), i + 1, by omega, rfl, by rw [wrapN (by omega)], by rw [← hd, hfd, if_neg (by rw [q1]; simp)]⟩
          first | exact ff | exact ⟨trivial, ff⟩ | exact ⟨trivial, trivial, ff⟩ | exact ⟨rfl, ff⟩
    · have : i = L.length := by simp at g; omega
      subst this
      rw [List.drop_length] at hd
      rw [← hd]; rfl
  · have h : askedS f node ≠ 0 := by simpa using h
    rw [firstR, if_pos h]
  · exact absurd (by simpa using h3 : askedS f node = 0) (by simpa using h))
end Go.Proofs.Ytbdbnpnichkcjaa

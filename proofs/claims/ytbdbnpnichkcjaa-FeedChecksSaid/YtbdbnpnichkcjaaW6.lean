/- Contracts: protections. -/
import Derived.Test.YtbdbnpnichkcjaaV6
namespace Go.Proofs.Ytbdbnpnichkcjaa
open Go.RowKit
def fz (f : TFeFeeder) (i : Nat) : TFeFuse := f.Fuses.getD (nd f i).Fuse.toNat .zero
theorem fz_get {f : TFeFeeder} (hf : OK f) {i : Nat} (h : i < f.Nodes.length) (h0 : i ≠ 0) (hz : 0 ≤ (nd f i).Fuse) : f.Fuses[(nd f i).Fuse.toNat]? = some (fz f i) := by
  have := (node_ok hf h h0).fuse
  unfold fz; rw [List.getD, List.getElem?_eq_getElem (by omega)]; rfl
theorem fz_av {f : TFeFeeder} (hf : OK f) {i : Nat} (h : i < f.Nodes.length) (h0 : i ≠ 0) (hz : 0 ≤ (nd f i).Fuse) : (List.map TFeFuse.av f.Fuses)[(nd f i).Fuse.toNat]? = some (fz f i).av := by
  rw [List.getElem?_map, fz_get hf h h0 hz]; rfl
structure FuseOK (x : TFeFuse) : Prop where
  len : 1 ≤ x.Points.length ∧ x.Points.length ≤ 8
  rated : 1 ≤ x.Rated ∧ x.Rated ≤ 100000000
  pts : ∀ p ∈ x.Points, (1 ≤ p.Current ∧ p.Current ≤ 100000000) ∧ 1 ≤ p.Melt.Lo ∧ p.Melt.Lo ≤ p.Melt.Hi ∧ p.Melt.Hi ≤ 100000000
  steps : stepsS x.Points = 0
theorem fuse_ok {f : TFeFeeder} (hf : OK f) {k : Nat} {x : TFeFuse} (hx : f.Fuses[k]? = some x) : FuseOK x := by
  have hk : k < f.Fuses.length := (List.getElem?_eq_some_iff.1 hx).1
  have h1 := errAt_rest hx (hf.fuses k hk)
  unfold curveS at h1
  split at h1
  · cases h1
  rename_i h2
  split at h1
  · cases h1
  rename_i h3
  simp only [Bool.not_eq_true', Bool.not_eq_false] at h2
  simp only [Bool.not_eq_true, Bool.or_eq_false_iff, Bool.not_eq_false'] at h3
  have g2 := inB_iff.1 h2
  refine ⟨by omega, inB_iff.1 h3.1, fun p hp => ?_, h1⟩
  have := List.any_eq_false.1 h3.2 p hp
  simp only [wildP, Bool.not_eq_true, Bool.not_eq_false', Bool.and_eq_true] at this
  exact ⟨inB_iff.1 this.1, wiB_iff.1 this.2⟩
/-- The greatest of three. -/
def mx3 (a b c : Int) : Int := if c > (if b > a then b else a) then c else (if b > a then b else a)
theorem mx3_eq {a b c : Int} : mx3 a b c = max (max a b) c := by
  unfold mx3; rw [Int.max_def, Int.max_def]; repeat' split
  all_goals omega
def besS (f : TFeFeeder) (i : Nat) : Int := mx3 (curE f TFeNode.Loads0 i).Hi (curE f TFeNode.Loads1 i).Hi (curE f TFeNode.Loads2 i).Hi
theorem bes_bound {f : TFeFeeder} (hf : OK f) (i : Nat) : 0 ≤ besS f i ∧ besS f i ≤ 40000000 := by
  have h0 := curE_ok hf _ (.inl rfl) i
  have h1 := curE_ok hf _ (.inr (.inl rfl)) i
  have h2 := curE_ok hf _ (.inr (.inr rfl)) i
  unfold besS mx3; repeat' split
  all_goals omega
def guardS (f : TFeFeeder) (i : Nat) : TGuard := ⟨i, fz f i, besS f i⟩
def hasF (f : TFeFeeder) (i : Nat) : Bool := decide (0 ≤ (nd f i).Fuse)
def guardsL (f : TFeFeeder) (l : List Nat) : List TGuard := (l.filter (hasF f)).map (guardS f)
theorem guards_take {f : TFeFeeder} {l : List Nat} {i x : Nat} (h : l[i]? = some x) : guardsL f (l.take (i + 1)) = guardsL f (l.take i) ++ (if hasF f x then [guardS f x] else []) := by
  unfold guardsL
  rw [List.take_add_one, h, List.filter_append, List.map_append]
  congr 1
  simp only [Option.toList, List.filter_cons, List.filter_nil]
  split <;> rfl
theorem flat_map {α : Type} {f : α → AV} {g : α → List AV} {k : Nat} (hf : ∀ x, f x = .agg (g x)) (hk : ∀ x, (g x).length = k) (ho : ∀ x, ones (g x) = true) (s : List α) :
    elemsOf k (s.map f) ∧ ((s.map f).flatMap AV.cells).length = s.length * k ∧ ones ((s.map f).flatMap AV.cells) = true ∧ chunkA k s.length ((s.map f).flatMap AV.cells) = s.map f := by
  induction s with
  | nil => exact ⟨by intro v hv; simp at hv, by simp, rfl, rfl⟩
  | cons x r ih =>
    obtain ⟨h1, h2, h3, h4⟩ := ih
    refine ⟨fun v hv => ?_, ?_, ?_, ?_⟩
    · rcases List.mem_cons.1 hv with rfl | hv
      · rw [hf]; exact hk x
      · exact h1 v hv
    · simp only [List.map_cons, List.flatMap_cons, List.length_append, h2, hf, AV.cells, hk, List.length_cons, Nat.succ_mul, Nat.add_comm]
    · simp only [List.map_cons, List.flatMap_cons, hf, AV.cells, ones, List.all_append, Bool.and_eq_true]
      exact ⟨ho x, h3⟩
    · simp only [List.map_cons, List.flatMap_cons, List.length_cons, hf, AV.cells, chunkA]
      rw [List.take_append_of_le_length (by rw [hk]; exact Nat.le_refl _), List.take_of_length_le (by rw [hk]; exact Nat.le_refl _), List.drop_append_of_le_length (by rw [hk]; exact Nat.le_refl _), List.drop_of_length_le (by rw [hk]; exact Nat.le_refl _), List.nil_append, h4]
theorem flatG (s : List TGuard) : elemsOf 5 (s.map TGuard.av) ∧ ((s.map TGuard.av).flatMap AV.cells).length = s.length * 5 ∧ ones ((s.map TGuard.av).flatMap AV.cells) = true ∧ chunkA 5 s.length ((s.map TGuard.av).flatMap AV.cells) = s.map TGuard.av :=
  flat_map (f := TGuard.av) (g := TGuard.cs) (k := 5) (fun _ => rfl) (fun _ => rfl) (fun _ => rfl) s
theorem cells118 : Try.prog.cellsOf 118 = 5 := by kernel_rfl
theorem agg118 : isAggT Try.prog 118 = true := by kernel_rfl
theorem upL_len40 {f : TFeFeeder} (hf : OK f) {node : Nat} (h : node < f.Nodes.length) : (upL f node).length ≤ 40 := by
  have := upL_len hf h; have := hf.nn; omega
theorem guards_len {f : TFeFeeder} {l : List Nat} : (guardsL f l).length ≤ l.length := by
  unfold guardsL; rw [List.length_map]; exact List.length_filter_le _ _
def R78 (f : TFeFeeder) (node : Int) (S : SpecF) (Fr : FuncId → List AV → Nat → List AV → Prop) (Sq : FuncId → List AV → List (List AV) → List (List AV) → Prop) (Q : AV → List (List AV) → Prop) : Prop :=
  ∃ xs0, Sq (125 : Nat) [AV.ref (0 : Nat) (0 : Nat), AV.ref (1 : Nat) (0 : Nat)] [[AV.int IntKind.i64 node], f.cs] xs0 ∧ (∀ (x3 : List AV), x3 ∈ xs0 → fitL [AV.int IntKind.i64 (0 : Int)] x3 = true ∧ AV.treeL x3 = true) ∧ ∃ (I3 : Nat → List AV → Prop), I3 (0 : Nat) [AV.slc (3 : Nat) []] ∧ (∀ (i6 : Nat) (n7 : Int), xs0[i6]? = some [AV.int IntKind.i64 n7] → ∀ (es9 : List AV), I3 i6 [AV.slc (3 : Nat) es9] → ∃ s11 n12 n13 n14 n15 n16 n17 n18 n19 n20 n21, ((0 : Int) ≤ n7 ∧ (11 : Nat) = (11 : Nat) ∧ (List.map TFeNode.av f.Nodes)[n7.toNat]? = some (AV.agg [AV.str s11, AV.int IntKind.i64 n12, AV.int IntKind.i64 n13, AV.int IntKind.i64 n14, AV.int IntKind.i64 n15, AV.int IntKind.i64 n16, AV.int IntKind.i64 n17, AV.int IntKind.i64 n18, AV.int IntKind.i64 n19, AV.int IntKind.i64 n20, AV.int IntKind.i64 n21])) ∧ (decide (n15 ≥ (0 : Int)) = true → ∃ n25 n26 n27 n28 n29 n30, S (74 : Nat) [f.av, AV.int IntKind.i64 n7] [] (AV.agg [AV.int IntKind.i64 n25, AV.int IntKind.i64 n26, AV.int IntKind.i64 n27, AV.int IntKind.i64 n28, AV.int IntKind.i64 n29, AV.int IntKind.i64 n30]) [] ∧ ∃ s32 n33 es34, ((0 : Int) ≤ n15 ∧ (3 : Nat) = (3 : Nat) ∧ (List.map TFeFuse.av f.Fuses)[n15.toNat]? = some (AV.agg [AV.str s32, AV.int IntKind.i64 n33, AV.slc (3 : Nat) es34])) ∧ elemsOf (5 : Nat) [AV.agg [AV.int IntKind.i64 n7, AV.str s32, AV.int IntKind.i64 n33, AV.slc (3 : Nat) es34, AV.int IntKind.i64 (if n30 > if true = true then if n28 > n26 then n28 else n26 else if n28 < n26 then n28 else n26 then n30 else if n28 > n26 then n28 else n26)]] ∧ ((List.flatMap AV.cells es9).length = es9.length * Try.prog.cellsOf (118 : Nat) ∧ (es9.length + (1 : Nat) + (200 : Nat)) * (65 : Nat) ≤ (70368744177664 : Nat) ∧ ones [AV.int IntKind.i64 n7, AV.str s32, AV.int IntKind.i64 n33, AV.slc (3 : Nat) es34, AV.int IntKind.i64 (if n30 > if true = true then if n28 > n26 then n28 else n26 else if n28 < n26 then n28 else n26 then n30 else if n28 > n26 then n28 else n26)] = true ∧ ones (List.flatMap AV.cells es9) = true) ∧ f.cs = f.cs ∧ [AV.undef] = [AV.undef] ∧ ∃ es40, (es40.length = es9.length + (1 : Nat) ∧ List.flatMap AV.cells es40 = List.flatMap AV.cells es9 ++ [AV.int IntKind.i64 n7, AV.str s32, AV.int IntKind.i64 n33, AV.slc (3 : Nat) es34, AV.int IntKind.i64 (if n30 > if true = true then if n28 > n26 then n28 else n26 else if n28 < n26 then n28 else n26 then n30 else if n28 > n26 then n28 else n26)]) ∧ I3 (i6 + (1 : Nat)) [AV.slc (3 : Nat) es40]) ∧ (decide (n15 ≥ (0 : Int)) = false → f.cs = f.cs ∧ [AV.undef] = [AV.undef] ∧ ∃ es27, (es27.length = es9.length ∧ List.flatMap AV.cells es27 = List.flatMap AV.cells es9) ∧ I3 (i6 + (1 : Nat)) [AV.slc (3 : Nat) es27])) ∧ ∀ (es6 : List AV), I3 xs0.length [AV.slc (3 : Nat) es6] → (0 : Nat) + es6.length * Try.prog.cellsOf (118 : Nat) ≤ (List.flatMap AV.cells es6).length ∧ Q (AV.slc (3 : Nat) (chunks (Try.prog.cellsOf (118 : Nat)) (isAggT Try.prog (118 : Nat)) es6.length (List.drop (0 : Nat) (List.flatMap AV.cells es6)))) []
theorem r78 (f : TFeFeeder) (node : Int) (S : SpecF) (Fr : FuncId → List AV → Nat → List AV → Prop) (Sq : FuncId → List AV → List (List AV) → List (List AV) → Prop) (Q : AV → List (List AV) → Prop) : awpF Try.prog (mkS Try.prog S Fr Sq ⟨[], [], [74], [(104, ⟨[0, 1, 2, 3, 4], [], [], []⟩)], []⟩ 4) 0 ⟨[0, 1, 2, 4, 5, 6, 7, 8, 11, 12, 20], [⟨4, [], [], [], [(5, 0, 118)], [.int .i64 0]⟩], [], []⟩ Try.f78 [f.av, .int .i64 node] [] Q = R78 f node S Fr Sq Q := by kernel_rfl
theorem s78 (f : TFeFeeder) (node : Int) (v : AV) (O : List (List AV)) (h : R78 f node (SpecOf Try.prog) (FreshOf Try.prog) (SeqOf Try.prog) (fun r O' => r = v ∧ O' = O)) : SpecOf Try.prog 78 [f.av, .int .i64 node] [] v O :=
  spec_by (boxes := []) mixed (by exact ⟨Try.call104, trivial⟩) Try.func78 Try.call78 rfl rfl rfl (Nat.le_of_ble_eq_true rfl) (r78 f node (SpecOf Try.prog) (FreshOf Try.prog) (SeqOf Try.prog) _) h
theorem c78 {f : TFeFeeder} (hf : OK f) (node : Nat) (h : node < f.Nodes.length) : Sp 78 [f.av, .int .i64 node] [] (.slc 3 ((guardsL f (upL f node)).map TGuard.av)) [] := s78 f node _ _ (by
  unfold R78
  refine ⟨_, c125 hf node h, fit_up, ?_⟩
  have hlen := upL_len40 hf h
  refine ⟨fun i vs => vs = [.slc 3 ((guardsL f ((upL f node).take i)).map TGuard.av)], rfl, ?_, ?_⟩
  · intro i n hi es hv
    obtain ⟨x, rfl, hx⟩ := up_at hi
    cases hv
    obtain ⟨h0, hlt, _⟩ := upL_mem hf h (List.mem_of_getElem? hx)
    obtain ⟨f1, f2, f3, f4⟩ := flatG (guardsL f ((upL f node).take i))
    have gl : (guardsL f ((upL f node).take i)).length ≤ 40 := Nat.le_trans guards_len (by rw [List.length_take]; omega)
    refine ⟨(nd f x).Name, (nd f x).Parent, (nd f x).Cable, (nd f x).Length, (nd f x).Fuse, (nd f x).Loads0.Lo, (nd f x).Loads0.Hi, (nd f x).Loads1.Lo, (nd f x).Loads1.Hi, (nd f x).Loads2.Lo, (nd f x).Loads2.Hi, ⟨by omega, rfl, nd_av hlt⟩, fun hz => ?_, fun hz => ?_⟩
    · have hz' : 0 ≤ (nd f x).Fuse := by simpa using hz
      have hh : hasF f x = true := hz
      refine ⟨_, _, _, _, _, _, c74 hf x hlt h0, (fz f x).Name, (fz f x).Rated, List.map TFePoint.av (fz f x).Points, ⟨hz', rfl, fz_av hf hlt h0 hz'⟩, ?_, ⟨?_, ?_, rfl, f3⟩, rfl, rfl, ((guardsL f ((upL f node).take (i + 1))).map TGuard.av), ⟨?_, ?_⟩, rfl⟩
      · intro v hv
        rw [List.mem_singleton] at hv
        rw [hv]; rfl
      · rw [cells118, List.length_map]; exact f2
      · rw [List.length_map]; omega
      · rw [guards_take hx, if_pos hh]; simp
      · rw [guards_take hx, if_pos hh, List.map_append, List.flatMap_append]; rfl
    · have hh : hasF f x = false := hz
      refine ⟨rfl, rfl, ((guardsL f ((upL f node).take (i + 1))).map TGuard.av), ⟨?_, ?_⟩, rfl⟩ <;> rw [guards_take hx, if_neg (by rw [hh]; simp), List.append_nil]
  · intro es hv
    rw [List.length_map, List.take_length] at hv
    cases hv
    obtain ⟨f1, f2, f3, f4⟩ := flatG (guardsL f (upL f node))
    refine ⟨by rw [cells118, f2, List.length_map]; omega, ?_, rfl⟩
    rw [cells118, agg118]; simp only [chunks, if_true, List.drop_zero, List.length_map]; rw [f4])
def beatsB (g o : TGuard) (c : Int) : Bool := !(meltS o.fuse (c + o.besides)).2 || decide ((meltS g.fuse c).1.Hi < (meltS o.fuse (c + o.besides)).1.Lo)
structure GOK (g : TGuard) : Prop where
  fuse : FuseOK g.fuse
  bes : 0 ≤ g.besides ∧ g.besides ≤ 40000000
def R80 (g : TGuard) (other : TGuard) (current : Int) (S : SpecF) (Fr : FuncId → List AV → Nat → List AV → Prop) (Sq : FuncId → List AV → List (List AV) → List (List AV) → Prop) (Q : AV → List (List AV) → Prop) : Prop :=
  ∃ n0 n1 b2, S (76 : Nat) [g.fuse.av, AV.int IntKind.i64 current] [] (AV.tup [AV.agg [AV.int IntKind.i64 n0, AV.int IntKind.i64 n1], AV.bool b2]) [] ∧ ∃ n4 n5 b6, S (76 : Nat) [other.fuse.av, AV.int IntKind.i64 (IntKind.i64.wrap (current + other.besides))] [] (AV.tup [AV.agg [AV.int IntKind.i64 n4, AV.int IntKind.i64 n5], AV.bool b6]) [] ∧ ((!b6) = true → Q (AV.bool true) []) ∧ ((!b6) = false → Q (AV.bool (decide (n1 < n4))) [])
theorem r80 (g : TGuard) (other : TGuard) (current : Int) (S : SpecF) (Fr : FuncId → List AV → Nat → List AV → Prop) (Sq : FuncId → List AV → List (List AV) → List (List AV) → Prop) (Q : AV → List (List AV) → Prop) : awpF Try.prog (mkS Try.prog S Fr Sq ⟨[], [], [], [], []⟩ 0) 0 ⟨[0, 1, 2, 3, 4, 6, 7, 9, 10], [], [], []⟩ Try.f80 [g.av, other.av, .int .i64 current] [] Q = R80 g other current S Fr Sq Q := by kernel_rfl
theorem s80 (g : TGuard) (other : TGuard) (current : Int) (v : AV) (O : List (List AV)) (h : R80 g other current (SpecOf Try.prog) (FreshOf Try.prog) (SeqOf Try.prog) (fun r O' => r = v ∧ O' = O)) : SpecOf Try.prog 80 [g.av, other.av, .int .i64 current] [] v O :=
  spec_by (boxes := []) mixed (by exact trivial) Try.func80 Try.call80 rfl rfl rfl (Nat.le_of_ble_eq_true rfl) (r80 g other current (SpecOf Try.prog) (FreshOf Try.prog) (SeqOf Try.prog) _) h
theorem c80 (g o : TGuard) (c : Int) (hg : GOK g) (ho : GOK o) (hc : -2000000000000 ≤ c ∧ c ≤ 2000000000000) : Sp 80 [g.av, o.av, .int .i64 c] [] (.bool (beatsB g o c)) [] := s80 g o c _ _ (by
  have e : IntKind.i64.wrap (c + o.besides) = c + o.besides := i64 (by have := ho.bes; omega)
  unfold R80; rw [e]
  refine ⟨_, _, _, c76 g.fuse c (by have := hg.fuse.len; omega), _, _, _, c76 o.fuse (c + o.besides) (by have := ho.fuse.len; omega), fun h => ⟨?_, rfl⟩, fun h => ⟨?_, rfl⟩⟩
  · rw [beatsB, h]; rfl
  · rw [beatsB, h]; rfl)
def R79 (other : TGuard) (v0 : TGuard) (v1 : Int) (S : SpecF) (Fr : FuncId → List AV → Nat → List AV → Prop) (Sq : FuncId → List AV → List (List AV) → List (List AV) → Prop) (Q : AV → List (List AV) → Prop) : Prop :=
  ∃ b0, S (80 : Nat) [v0.av, other.av, AV.int IntKind.i64 v1] [] (AV.bool b0) [] ∧ Q (AV.bool !b0) [v0.cs, [AV.int IntKind.i64 v1]]
theorem r79 (other : TGuard) (v0 : TGuard) (v1 : Int) (S : SpecF) (Fr : FuncId → List AV → Nat → List AV → Prop) (Sq : FuncId → List AV → List (List AV) → List (List AV) → Prop) (Q : AV → List (List AV) → Prop) : awpF Try.prog (mkS Try.prog S Fr Sq ⟨[], [], [], [], []⟩ 0) 2 ⟨[0, 1, 2, 3, 4], [], [], []⟩ Try.f79 [other.av, .ref 0 0, .ref 1 0] [⟨118, false, v0.cs⟩, ⟨3, false, [.int .i64 v1]⟩] Q = R79 other v0 v1 S Fr Sq Q := by kernel_rfl
theorem s79 (other : TGuard) (v0 : TGuard) (v1 : Int) (v : AV) (O : List (List AV)) (h : R79 other v0 v1 (SpecOf Try.prog) (FreshOf Try.prog) (SeqOf Try.prog) (fun r O' => r = v ∧ O' = O)) : SpecOf Try.prog 79 [other.av, .ref 0 0, .ref 1 0] [v0.cs, [.int .i64 v1]] v O :=
  spec_by (boxes := [⟨118, false, v0.cs⟩, ⟨3, false, [.int .i64 v1]⟩]) mixed (by exact trivial) Try.func79 Try.call79 rfl rfl rfl (Nat.le_of_ble_eq_true rfl) (r79 other v0 v1 (SpecOf Try.prog) (FreshOf Try.prog) (SeqOf Try.prog) _) h
theorem c79 (o g : TGuard) (c : Int) (hg : GOK g) (ho : GOK o) (hc : -2000000000000 ≤ c ∧ c ≤ 2000000000000) : Sp 79 [o.av, .ref 0 0, .ref 1 0] [g.cs, [.int .i64 c]] (.bool (!beatsB g o c)) [g.cs, [.int .i64 c]] := s79 o g c _ _ ⟨_, c80 g o c hg ho hc, rfl, rfl⟩
def R113 (s : List TGuard) (f0 : TGuard) (f1 : Int) (S : SpecF) (Fr : FuncId → List AV → Nat → List AV → Prop) (Sq : FuncId → List AV → List (List AV) → List (List AV) → Prop) (Q : AV → List (List AV) → Prop) : Prop :=
  ∃ (I0 : Nat → List AV → Prop), (∃ m2, I0 m2 [AV.int IntKind.i64 (0 : Int), f0.av]) ∧ ∀ (m2 : Nat) (n3 n4 : Int) (s5 : ByteArray) (n6 : Int) (es7 : List AV) (n8 : Int), I0 m2 [AV.int IntKind.i64 n3, AV.agg [AV.int IntKind.i64 n4, AV.str s5, AV.int IntKind.i64 n6, AV.slc (3 : Nat) es7, AV.int IntKind.i64 n8]] → (decide (n3 < (↑(List.map TGuard.av s).length : Int)) = true → ∃ n12 s13 n14 es15 n16, ((0 : Int) ≤ n3 ∧ (5 : Nat) = (5 : Nat) ∧ (List.map TGuard.av s)[n3.toNat]? = some (AV.agg [AV.int IntKind.i64 n12, AV.str s13, AV.int IntKind.i64 n14, AV.slc (3 : Nat) es15, AV.int IntKind.i64 n16])) ∧ ∃ b18, S (79 : FuncId) [AV.agg [AV.int IntKind.i64 n12, AV.str s13, AV.int IntKind.i64 n14, AV.slc (3 : Nat) es15, AV.int IntKind.i64 n16], AV.ref (0 : Nat) (0 : Nat), AV.ref (1 : Nat) (0 : Nat)] [[AV.int IntKind.i64 n4, AV.str s5, AV.int IntKind.i64 n6, AV.slc (3 : Nat) es7, AV.int IntKind.i64 n8], [AV.int IntKind.i64 f1]] (AV.bool b18) [[AV.int IntKind.i64 n4, AV.str s5, AV.int IntKind.i64 n6, AV.slc (3 : Nat) es7, AV.int IntKind.i64 n8], [AV.int IntKind.i64 f1]] ∧ (b18 = true → Q (AV.int IntKind.i64 n3) [[AV.int IntKind.i64 n4, AV.str s5, AV.int IntKind.i64 n6, AV.slc (3 : Nat) es7, AV.int IntKind.i64 n8], [AV.int IntKind.i64 f1]]) ∧ (b18 = false → [AV.int IntKind.i64 f1] = [AV.int IntKind.i64 f1] ∧ ∃ k23, k23 < m2 ∧ I0 k23 [AV.int IntKind.i64 (IntKind.i64.wrap (n3 + (1 : Int))), AV.agg [AV.int IntKind.i64 n4, AV.str s5, AV.int IntKind.i64 n6, AV.slc (3 : Nat) es7, AV.int IntKind.i64 n8]])) ∧ (decide (n3 < (↑(List.map TGuard.av s).length : Int)) = false → Q (AV.int IntKind.i64 (-1 : Int)) [[AV.int IntKind.i64 n4, AV.str s5, AV.int IntKind.i64 n6, AV.slc (3 : Nat) es7, AV.int IntKind.i64 n8], [AV.int IntKind.i64 f1]])
theorem r113 (s : List TGuard) (f0 : TGuard) (f1 : Int) (S : SpecF) (Fr : FuncId → List AV → Nat → List AV → Prop) (Sq : FuncId → List AV → List (List AV) → List (List AV) → Prop) (Q : AV → List (List AV) → Prop) : awpF Try.prog (mkS Try.prog S Fr Sq ⟨[], [], [79], [], []⟩ 0) 2 ⟨[0, 1, 4, 5, 7, 8, 9, 16], [⟨2, [(8, .int .i64 0)], [], [(1000000, .agg [.int .i64 0, .str default, .int .i64 0, .slc 3 [], .int .i64 0])], [], []⟩], [], []⟩ Try.f113 [.slc 3 (List.map TGuard.av s), .fn 79 [] [.ref 0 0, .ref 1 0]] [⟨118, false, f0.cs⟩, ⟨3, false, [.int .i64 f1]⟩] Q = R113 s f0 f1 S Fr Sq Q := by kernel_rfl
theorem s113 (s : List TGuard) (f0 : TGuard) (f1 : Int) (v : AV) (O : List (List AV)) (h : R113 s f0 f1 (SpecOf Try.prog) (FreshOf Try.prog) (SeqOf Try.prog) (fun r O' => r = v ∧ O' = O)) : SpecOf Try.prog 113 [.slc 3 (List.map TGuard.av s), .fn 79 [] [.ref 0 0, .ref 1 0]] [f0.cs, [.int .i64 f1]] v O :=
  spec_by (boxes := [⟨118, false, f0.cs⟩, ⟨3, false, [.int .i64 f1]⟩]) mixed (by exact trivial) Try.func113 Try.call113 rfl rfl rfl (Nat.le_of_ble_eq_true rfl) (r113 s f0 f1 (SpecOf Try.prog) (FreshOf Try.prog) (SeqOf Try.prog) _) h
theorem c113 (s : List TGuard) (g : TGuard) (c : Int) (hl : s.length ≤ 1000000) (hg : GOK g) (hs : ∀ o ∈ s, GOK o) (hc : -2000000000000 ≤ c ∧ c ≤ 2000000000000) : Sp 113 [.slc 3 (List.map TGuard.av s), .fn 79 [] [.ref 0 0, .ref 1 0]] [g.cs, [.int .i64 c]] (.int .i64 (idxP (fun o => !beatsB g o c) 0 s)) [g.cs, [.int .i64 c]] := s113 s g c _ _ (by
  refine ⟨fun m vs => ∃ n : Nat, vs = [.int .i64 n, g.av] ∧ n ≤ s.length ∧ m = s.length - n ∧ idxP (fun o => !beatsB g o c) n (s.drop n) = idxP (fun o => !beatsB g o c) 0 s, ⟨_, 0, rfl, by omega, rfl, rfl⟩, ?_⟩
  rintro m n n1 n2 n3 n4 n5 ⟨k, hk, hle, rfl, hn⟩
  cases hk
  refine ⟨fun h3 => ?_, fun h3 => ⟨?_, rfl⟩⟩
  · have h3 : k < s.length := by simpa using h3
    obtain ⟨x, hx, hx'⟩ := map_getN (f := TGuard.av) h3
    have hat := idxP_at (p := fun o => !beatsB g o c) hx
    refine ⟨x.node, x.fuse.Name, x.fuse.Rated, List.map TFePoint.av x.fuse.Points, x.besides, ⟨by omega, rfl, hx'⟩, _, c79 x g c hg (hs x (List.mem_of_getElem? hx)) hc, fun h4 => ⟨?_, rfl⟩, fun h4 => ⟨rfl, _, ?_, k + 1, ?_, by omega, rfl, ?_⟩⟩
    · rw [← hn, hat, if_pos h4]
    · omega
    · rw [wrapN (by omega)]; rfl
    · rw [← hn, hat, if_neg (by rw [h4]; simp)]
  · have : k = s.length := by simp at h3; omega
    rw [← hn, this, List.drop_length]; rfl)
def R81 (s : List TGuard) (f0 : TGuard) (f1 : Int) (S : SpecF) (Fr : FuncId → List AV → Nat → List AV → Prop) (Sq : FuncId → List AV → List (List AV) → List (List AV) → Prop) (Q : AV → List (List AV) → Prop) : Prop :=
  ∃ n0, S (113 : Nat) [AV.slc (3 : Nat) (List.map TGuard.av s), AV.fn (79 : FuncId) [] [AV.ref (0 : Nat) (0 : Nat), AV.ref (1 : Nat) (0 : Nat)]] [f0.cs, [AV.int IntKind.i64 f1]] (AV.int IntKind.i64 n0) [f0.cs, [AV.int IntKind.i64 f1]] ∧ Q (AV.bool (decide (n0 ≥ (0 : Int)))) [f0.cs, [AV.int IntKind.i64 f1]]
theorem r81 (s : List TGuard) (f0 : TGuard) (f1 : Int) (S : SpecF) (Fr : FuncId → List AV → Nat → List AV → Prop) (Sq : FuncId → List AV → List (List AV) → List (List AV) → Prop) (Q : AV → List (List AV) → Prop) : awpF Try.prog (mkS Try.prog S Fr Sq ⟨[], [], [113], [], []⟩ 0) 2 ⟨[0, 1, 4], [], [], []⟩ Try.f81 [.slc 3 (List.map TGuard.av s), .fn 79 [] [.ref 0 0, .ref 1 0]] [⟨118, false, f0.cs⟩, ⟨3, false, [.int .i64 f1]⟩] Q = R81 s f0 f1 S Fr Sq Q := by kernel_rfl
theorem s81 (s : List TGuard) (f0 : TGuard) (f1 : Int) (v : AV) (O : List (List AV)) (h : R81 s f0 f1 (SpecOf Try.prog) (FreshOf Try.prog) (SeqOf Try.prog) (fun r O' => r = v ∧ O' = O)) : SpecOf Try.prog 81 [.slc 3 (List.map TGuard.av s), .fn 79 [] [.ref 0 0, .ref 1 0]] [f0.cs, [.int .i64 f1]] v O :=
  spec_by (boxes := [⟨118, false, f0.cs⟩, ⟨3, false, [.int .i64 f1]⟩]) mixed (by exact trivial) Try.func81 Try.call81 rfl rfl rfl (Nat.le_of_ble_eq_true rfl) (r81 s f0 f1 (SpecOf Try.prog) (FreshOf Try.prog) (SeqOf Try.prog) _) h
theorem c81 (s : List TGuard) (g : TGuard) (c : Int) (hl : s.length ≤ 1000000) (hg : GOK g) (hs : ∀ o ∈ s, GOK o) (hc : -2000000000000 ≤ c ∧ c ≤ 2000000000000) : Sp 81 [.slc 3 (List.map TGuard.av s), .fn 79 [] [.ref 0 0, .ref 1 0]] [g.cs, [.int .i64 c]] (.bool (s.any fun o => !beatsB g o c)) [g.cs, [.int .i64 c]] := s81 s g c _ _ (by
  refine ⟨_, c113 s g c hl hg hs hc, ?_, rfl⟩
  rw [idxP_ge])
theorem guard_ok {f : TFeFeeder} (hf : OK f) {i : Nat} (h : i < f.Nodes.length) (h0 : i ≠ 0) (hz : hasF f i = true) : GOK (guardS f i) :=
  ⟨fuse_ok hf (fz_get hf h h0 (by simpa [hasF] using hz)), bes_bound hf i⟩
theorem guards_ok {f : TFeFeeder} (hf : OK f) {node : Nat} (h : node < f.Nodes.length) : ∀ g ∈ guardsL f (upL f node), GOK g := by
  intro g hg
  unfold guardsL at hg
  obtain ⟨i, hi, rfl⟩ := List.mem_map.1 hg
  obtain ⟨h1, h2⟩ := List.mem_filter.1 hi
  obtain ⟨h0, hlt, _⟩ := upL_mem hf h h1
  exact guard_ok hf hlt h0 h2
/-- The first protection that certainly opens first, among the rest of a list. -/
def certB (l : List TGuard) (c : Int) (i : Nat) (g : TGuard) : Bool := (meltS g.fuse c).2 && !((l.take i).any fun o => !beatsB g o c) && !((l.drop (i + 1)).any fun o => !beatsB g o c)
def firstG (l : List TGuard) (c : Int) : Nat → List TGuard → Int
  | _, [] => -1
  | i, g :: r => if certB l c i g then g.node else firstG l c (i + 1) r
theorem firstG_at {l : List TGuard} {c : Int} {k : Nat} {g : TGuard} (h : l[k]? = some g) : firstG l c k (l.drop k) = if certB l c k g then g.node else firstG l c (k + 1) (l.drop (k + 1)) := by
  obtain ⟨hk, rfl⟩ := List.getElem?_eq_some_iff.1 h
  rw [List.drop_eq_getElem_cons hk]; rfl
def firstR (f : TFeFeeder) (node c : Int) : Int × Int := if askedS f node ≠ 0 then (0, askedS f node) else if !inB c 0 1000000000 then (0, 7) else (firstG (guardsL f (upL f node.toNat)) c 0 (guardsL f (upL f node.toNat)), 0)
def R31 (f : TFeFeeder) (node : Int) (current : Int) (S : SpecF) (Fr : FuncId → List AV → Nat → List AV → Prop) (Sq : FuncId → List AV → List (List AV) → List (List AV) → Prop) (Q : AV → List (List AV) → Prop) : Prop :=
  ∃ n0, S (61 : Nat) [f.av, AV.int IntKind.i64 node] [] (AV.int IntKind.i64 n0) [] ∧ ((n0 != (0 : Int)) = true → Q (AV.tup [AV.int IntKind.i64 (0 : Int), AV.int IntKind.i64 n0]) []) ∧ ((n0 != (0 : Int)) = false → ∃ b4, S (43 : Nat) [AV.int IntKind.i64 current, AV.int IntKind.i64 (0 : Int), AV.int IntKind.i64 (1000000000 : Int)] [] (AV.bool b4) [] ∧ ((!b4) = true → Q (AV.tup [AV.int IntKind.i64 (0 : Int), AV.int IntKind.i64 (7 : Int)]) []) ∧ ((!b4) = false → ∃ es8, S (78 : Nat) [f.av, AV.int IntKind.i64 node] [] (AV.slc (3 : Nat) es8) [] ∧ ∃ (I10 : Nat → List AV → Prop), (∃ m12, I10 m12 [AV.int IntKind.i64 (0 : Int), AV.agg [AV.int IntKind.i64 current]]) ∧ ∀ (m12 : Nat) (n13 n14 : Int), I10 m12 [AV.int IntKind.i64 n13, AV.agg [AV.int IntKind.i64 n14]] → (decide (n13 < (↑es8.length : Int)) = true → ∃ n18 s19 n20 es21 n22, ((0 : Int) ≤ n13 ∧ (5 : Nat) = (5 : Nat) ∧ es8[n13.toNat]? = some (AV.agg [AV.int IntKind.i64 n18, AV.str s19, AV.int IntKind.i64 n20, AV.slc (3 : Nat) es21, AV.int IntKind.i64 n22])) ∧ ∃ n24 n25 b26, S (76 : Nat) [AV.agg [AV.str s19, AV.int IntKind.i64 n20, AV.slc (3 : Nat) es21], AV.int IntKind.i64 n14] [] (AV.tup [AV.agg [AV.int IntKind.i64 n24, AV.int IntKind.i64 n25], AV.bool b26]) [] ∧ (b26 = true → ((0 : Int) ≤ n13 ∧ n13 ≤ (↑es8.length : Int)) ∧ ∃ b31, S (81 : Nat) [AV.slc (3 : Nat) (List.take n13.toNat es8), AV.fn (79 : Nat) [] [AV.ref (0 : Nat) (0 : Nat), AV.ref (1 : Nat) (0 : Nat)]] [[AV.int IntKind.i64 n18, AV.str s19, AV.int IntKind.i64 n20, AV.slc (3 : Nat) es21, AV.int IntKind.i64 n22], [AV.int IntKind.i64 n14]] (AV.bool b31) [[AV.int IntKind.i64 n18, AV.str s19, AV.int IntKind.i64 n20, AV.slc (3 : Nat) es21, AV.int IntKind.i64 n22], [AV.int IntKind.i64 n14]] ∧ ((!b31) = true → ((0 : Int) ≤ IntKind.i64.wrap (n13 + (1 : Int)) ∧ IntKind.i64.wrap (n13 + (1 : Int)) ≤ (↑es8.length : Int) ∧ (↑es8.length : Int) ≤ (↑es8.length : Int) ∧ elemsOf (5 : Nat) es8) ∧ ∃ b36, S (81 : Nat) [AV.slc (3 : Nat) (List.take ((↑es8.length : Int).toNat - (IntKind.i64.wrap (n13 + (1 : Int))).toNat) (List.drop (IntKind.i64.wrap (n13 + (1 : Int))).toNat es8)), AV.fn (79 : Nat) [] [AV.ref (0 : Nat) (0 : Nat), AV.ref (1 : Nat) (0 : Nat)]] [[AV.int IntKind.i64 n18, AV.str s19, AV.int IntKind.i64 n20, AV.slc (3 : Nat) es21, AV.int IntKind.i64 n22], [AV.int IntKind.i64 n14]] (AV.bool b36) [[AV.int IntKind.i64 n18, AV.str s19, AV.int IntKind.i64 n20, AV.slc (3 : Nat) es21, AV.int IntKind.i64 n22], [AV.int IntKind.i64 n14]] ∧ ((!b36) = true → Q (AV.tup [AV.int IntKind.i64 n18, AV.int IntKind.i64 (0 : Int)]) []) ∧ ((!b36) = false → f.cs = f.cs ∧ ∃ k41, k41 < m12 ∧ I10 k41 [AV.int IntKind.i64 (IntKind.i64.wrap (n13 + (1 : Int))), AV.agg [AV.int IntKind.i64 n14]])) ∧ ((!b31) = false → f.cs = f.cs ∧ ∃ k36, k36 < m12 ∧ I10 k36 [AV.int IntKind.i64 (IntKind.i64.wrap (n13 + (1 : Int))), AV.agg [AV.int IntKind.i64 n14]])) ∧ (b26 = false → f.cs = f.cs ∧ ∃ k31, k31 < m12 ∧ I10 k31 [AV.int IntKind.i64 (IntKind.i64.wrap (n13 + (1 : Int))), AV.agg [AV.int IntKind.i64 n14]])) ∧ (decide (n13 < (↑es8.length : Int)) = false → Q (AV.tup [AV.int IntKind.i64 (-1 : Int), AV.int IntKind.i64 (0 : Int)]) [])))
theorem r31 (f : TFeFeeder) (node : Int) (current : Int) (S : SpecF) (Fr : FuncId → List AV → Nat → List AV → Prop) (Sq : FuncId → List AV → List (List AV) → List (List AV) → Prop) (Q : AV → List (List AV) → Prop) : awpF Try.prog (mkS Try.prog S Fr Sq ⟨[], [], [81, 79], [], []⟩ 0) 0 ⟨[0, 1, 2, 3, 5, 6, 7, 8, 9, 10, 11, 13, 14, 18, 22, 29, 30, 31, 32, 61], [⟨8, [(31, .int .i64 0)], [], [(5, .agg [.int .i64 0])], [], []⟩], [], []⟩ Try.f31 [f.av, .int .i64 node, .int .i64 current] [] Q = R31 f node current S Fr Sq Q := by kernel_rfl
theorem s31 (f : TFeFeeder) (node : Int) (current : Int) (v : AV) (O : List (List AV)) (h : R31 f node current (SpecOf Try.prog) (FreshOf Try.prog) (SeqOf Try.prog) (fun r O' => r = v ∧ O' = O)) : SpecOf Try.prog 31 [f.av, .int .i64 node, .int .i64 current] [] v O :=
  spec_by (boxes := []) mixed (by exact trivial) Try.func31 Try.call31 rfl rfl rfl (Nat.le_of_ble_eq_true rfl) (r31 f node current (SpecOf Try.prog) (FreshOf Try.prog) (SeqOf Try.prog) _) h
theorem c31 (f : TFeFeeder) (hn : NOK f) (node c : Int) : Sp 31 [f.av, .int .i64 node, .int .i64 c] [] (.tup [.int .i64 (firstR f node c).1, .int .i64 (firstR f node c).2]) [] := s31 f node c _ _ (by
  unfold R31
  refine ⟨_, c61 f hn node, fun h => ⟨?_, rfl⟩, fun h => ⟨_, c43 _ _ _, fun h2 => ⟨?_, rfl⟩, fun h2 => ?_⟩⟩
  · have h : askedS f node ≠ 0 := by simpa using h
    rw [firstR, if_pos h]
  · have h : ¬ askedS f node ≠ 0 := by simpa using h
    rw [firstR, if_neg h, if_pos h2]
  · have h : askedS f node = 0 := by simpa using h
    have h2' : ¬ (!inB c 0 1000000000) = true := by rw [h2]; simp
    obtain ⟨hf, x, rfl, hx⟩ := asked_ok h
    have hp := inB_iff.1 (by simpa using h2 : inB c 0 1000000000 = true)
    have hR : firstR f x c = (firstG (guardsL f (upL f x)) c 0 (guardsL f (upL f x)), 0) := by rw [firstR, if_neg (by omega), if_neg h2']; rfl
    rw [hR]
    have hgo := guards_ok hf hx
    have hgl : (guardsL f (upL f x)).length ≤ 40 := Nat.le_trans guards_len (upL_len40 hf hx)
    have hc := c78 hf x hx
    generalize guardsL f (upL f x) = L at hgo hgl hc
    refine ⟨_, hc, ?_⟩
    simp only [List.length_map]
    refine ⟨fun m vs => ∃ n : Nat, vs = [.int .i64 n, .agg [.int .i64 c]] ∧ n ≤ L.length ∧ m = L.length - n ∧ firstG L c n (L.drop n) = firstG L c 0 L, ⟨_, 0, rfl, by omega, rfl, rfl⟩, ?_⟩
    rintro m n n1 ⟨k, hk, hle, rfl, hn⟩
    cases hk
    refine ⟨fun h3 => ?_, fun h3 => ⟨?_, trivial⟩⟩
    · have h3 : k < L.length := by simpa using h3
      obtain ⟨g, hg, hg'⟩ := map_getN (f := TGuard.av) h3
      have hgg := hgo g (List.mem_of_getElem? hg)
      have hat := firstG_at (c := c) hg
      have hw : IntKind.i64.wrap ((k : Int) + 1) = ((k + 1 : Nat) : Int) := wrapN (by omega)
      rw [hw]
      have next : certB L c k g = false → ∃ m', m' < L.length - k ∧ ∃ n : Nat, [AV.int .i64 ((k + 1 : Nat) : Int), .agg [.int .i64 c]] = [.int .i64 n, .agg [.int .i64 c]] ∧ n ≤ L.length ∧ m' = L.length - n ∧ firstG L c n (L.drop n) = firstG L c 0 L := fun hcb =>
        ⟨_, (by omega : L.length - (k + 1) < L.length - k), k + 1, rfl, by omega, rfl, by rw [← hn, hat, if_neg (by rw [hcb]; simp)]⟩
      have e1 : List.take (k : Int).toNat (List.map TGuard.av L) = List.map TGuard.av (L.take k) := by rw [Int.toNat_natCast, List.map_take]
      have e2 : List.take ((L.length : Int).toNat - ((k + 1 : Nat) : Int).toNat) (List.drop ((k + 1 : Nat) : Int).toNat (List.map TGuard.av L)) = List.map TGuard.av (L.drop (k + 1)) := by
        rw [Int.toNat_natCast, Int.toNat_natCast, ← List.map_drop, List.take_of_length_le (by simp)]
      refine ⟨g.node, g.fuse.Name, g.fuse.Rated, List.map TFePoint.av g.fuse.Points, g.besides, ⟨by omega, trivial, hg'⟩, _, _, _, c76 g.fuse c (by have := hgg.fuse.len; omega), fun h4 => ⟨⟨by omega, by omega⟩, ((L.take k).any fun o => !beatsB g o c), ?_, fun h5 => ⟨⟨by omega, by omega, by omega, (flatG L).1⟩, ((L.drop (k + 1)).any fun o => !beatsB g o c), ?_, fun h6 => ⟨?_, trivial⟩, fun h6 => ⟨trivial, next ?_⟩⟩, fun h5 => ⟨trivial, next ?_⟩⟩, fun h4 => ⟨trivial, next ?_⟩⟩
      · rw [e1]; exact c81 (L.take k) g c (by rw [List.length_take]; omega) hgg (fun o ho => hgo o (List.mem_of_mem_take ho)) (by omega)
      · rw [e2]; exact c81 (L.drop (k + 1)) g c (by rw [List.length_drop]; omega) hgg (fun o ho => hgo o (List.mem_of_mem_drop ho)) (by omega)
      · have : certB L c k g = true := by rw [certB, h4, h5, h6]; rfl
        rw [← hn, hat, if_pos this]
      · rw [certB, h6, Bool.and_false]
      · rw [certB, h5, Bool.and_false, Bool.false_and]
      · rw [certB, h4, Bool.false_and, Bool.false_and]
    · have : k = L.length := by simp at h3; omega
      rw [← hn, this, List.drop_length]; rfl)
end Go.Proofs.Ytbdbnpnichkcjaa

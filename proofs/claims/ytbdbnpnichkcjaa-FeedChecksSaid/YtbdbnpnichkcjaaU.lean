/- Contracts: drops, faults. -/
import Derived.Test.YtbdbnpnichkcjaaS1
namespace Go.Proofs.Ytbdbnpnichkcjaa
open Go.RowKit
def askedS (f : TFeFeeder) (node : Int) : Int := if (checkF f).2.2 = 0 then (if inB node 0 ((f.Nodes.length : Int) - 1) then 0 else 4) else (checkF f).2.2
def innerS (f : TFeFeeder) (node : Int) : Int := if askedS f node = 0 ∧ node = 0 then 2 else askedS f node
theorem asked_ok {f : TFeFeeder} {node : Int} (h : askedS f node = 0) : OK f ∧ ∃ k : Nat, node = k ∧ k < f.Nodes.length := by
  unfold askedS at h
  split at h
  · rename_i h1
    split at h
    · rename_i h2
      have := inB_iff.1 h2
      exact ⟨ok_of h1, node.toNat, by omega, by omega⟩
    · cases h
  · rename_i h1; exact absurd h h1
theorem inner_ok {f : TFeFeeder} {node : Int} (h : innerS f node = 0) : OK f ∧ ∃ k : Nat, node = k ∧ k < f.Nodes.length ∧ k ≠ 0 := by
  unfold innerS at h
  split at h
  · cases h
  · rename_i h1
    obtain ⟨h2, k, rfl, h3⟩ := asked_ok h
    exact ⟨h2, k, rfl, h3, fun h0 => h1 ⟨h, by omega⟩⟩
def R61 (f : TFeFeeder) (node : Int) (S : SpecF) (Fr : FuncId → List AV → Nat → List AV → Prop) (Sq : FuncId → List AV → List (List AV) → List (List AV) → Prop) (Q : AV → List (List AV) → Prop) : Prop :=
  ∃ n0 n1 n2, S (15 : Nat) [f.av] [] (AV.tup [AV.int IntKind.i64 n0, AV.int IntKind.i64 n1, AV.int IntKind.i64 n2]) [] ∧ ((n2 == (0 : Int)) = true → ∃ b6, S (43 : Nat) [AV.int IntKind.i64 node, AV.int IntKind.i64 (0 : Int), AV.int IntKind.i64 (IntKind.i64.wrap ((↑(List.map TFeNode.av f.Nodes).length : Int) - (1 : Int)))] [] (AV.bool b6) [] ∧ ((!b6) = true → Q (AV.int IntKind.i64 (4 : Int)) []) ∧ ((!b6) = false → Q (AV.int IntKind.i64 n2) [])) ∧ ((n2 == (0 : Int)) = false → Q (AV.int IntKind.i64 n2) [])
theorem r61 (f : TFeFeeder) (node : Int) (S : SpecF) (Fr : FuncId → List AV → Nat → List AV → Prop) (Sq : FuncId → List AV → List (List AV) → List (List AV) → Prop) (Q : AV → List (List AV) → Prop) : awpF Try.prog (mkS Try.prog S Fr Sq ⟨[], [], [], [], []⟩ 0) 0 ⟨[0, 1, 2, 4, 7, 24], [], [], []⟩ Try.f61 [f.av, .int .i64 node] [] Q = R61 f node S Fr Sq Q := by kernel_rfl
theorem s61 (f : TFeFeeder) (node : Int) (v : AV) (O : List (List AV)) (h : R61 f node (SpecOf Try.prog) (FreshOf Try.prog) (SeqOf Try.prog) (fun r O' => r = v ∧ O' = O)) : SpecOf Try.prog 61 [f.av, .int .i64 node] [] v O :=
  spec_by (boxes := []) mixed (by exact trivial) Try.func61 Try.call61 rfl rfl rfl (Nat.le_of_ble_eq_true rfl) (r61 f node (SpecOf Try.prog) (FreshOf Try.prog) (SeqOf Try.prog) _) h
theorem c61 (f : TFeFeeder) (hn : NOK f) (node : Int) : Sp 61 [f.av, .int .i64 node] [] (.int .i64 (askedS f node)) [] := s61 f node _ _ (by
  unfold R61
  refine ⟨_, _, _, c15 f hn, fun h => ?_, fun h => ⟨?_, rfl⟩⟩
  · have h : (checkF f).2.2 = 0 := by simpa using h
    have hk := ok_of h
    have e : IntKind.i64.wrap (((List.map TFeNode.av f.Nodes).length : Int) - 1) = (f.Nodes.length : Int) - 1 := by rw [List.length_map]; exact i64 (by have := hk.nn; omega)
    rw [e]
    refine ⟨_, c43 _ _ _, fun h2 => ⟨?_, rfl⟩, fun h2 => ⟨?_, rfl⟩⟩
    · have h2 : inB node 0 ((f.Nodes.length : Int) - 1) = false := by simpa using h2
      rw [askedS, if_pos h, h2]; rfl
    · have h2 : inB node 0 ((f.Nodes.length : Int) - 1) = true := by simpa using h2
      rw [askedS, if_pos h, h2, h]; rfl
  · have h : (checkF f).2.2 ≠ 0 := by simpa using h
    rw [askedS, if_neg h])
def R65 (f : TFeFeeder) (node : Int) (S : SpecF) (Fr : FuncId → List AV → Nat → List AV → Prop) (Sq : FuncId → List AV → List (List AV) → List (List AV) → Prop) (Q : AV → List (List AV) → Prop) : Prop :=
  ∃ n0, S (61 : Nat) [f.av, AV.int IntKind.i64 node] [] (AV.int IntKind.i64 n0) [] ∧ ((n0 == (0 : Int)) = true → ((node == (0 : Int)) = true → Q (AV.int IntKind.i64 (2 : Int)) []) ∧ ((node == (0 : Int)) = false → Q (AV.int IntKind.i64 n0) [])) ∧ ((n0 == (0 : Int)) = false → Q (AV.int IntKind.i64 n0) [])
theorem r65 (f : TFeFeeder) (node : Int) (S : SpecF) (Fr : FuncId → List AV → Nat → List AV → Prop) (Sq : FuncId → List AV → List (List AV) → List (List AV) → Prop) (Q : AV → List (List AV) → Prop) : awpF Try.prog (mkS Try.prog S Fr Sq ⟨[], [], [], [], []⟩ 0) 0 ⟨[0, 1, 2, 4, 5, 14], [], [], []⟩ Try.f65 [f.av, .int .i64 node] [] Q = R65 f node S Fr Sq Q := by kernel_rfl
theorem s65 (f : TFeFeeder) (node : Int) (v : AV) (O : List (List AV)) (h : R65 f node (SpecOf Try.prog) (FreshOf Try.prog) (SeqOf Try.prog) (fun r O' => r = v ∧ O' = O)) : SpecOf Try.prog 65 [f.av, .int .i64 node] [] v O :=
  spec_by (boxes := []) mixed (by exact trivial) Try.func65 Try.call65 rfl rfl rfl (Nat.le_of_ble_eq_true rfl) (r65 f node (SpecOf Try.prog) (FreshOf Try.prog) (SeqOf Try.prog) _) h
theorem c65 (f : TFeFeeder) (hn : NOK f) (node : Int) : Sp 65 [f.av, .int .i64 node] [] (.int .i64 (innerS f node)) [] := s65 f node _ _ (by
  refine ⟨_, c61 f hn node, fun h => ⟨fun h2 => ⟨?_, rfl⟩, fun h2 => ⟨?_, rfl⟩⟩, fun h => ⟨?_, rfl⟩⟩
  · rw [innerS, if_pos ⟨by simpa using h, by simpa using h2⟩]
  · rw [innerS, if_neg (fun e => by simp [e.2] at h2)]
  · rw [innerS, if_neg (fun e => by simp [e.1] at h)])
def cb (f : TFeFeeder) (i : Nat) : TFeCable := f.Cables.getD (nd f i).Cable.toNat .zero
structure CabOK (x : TFeCable) : Prop where
  core : 1 ≤ x.Core.Lo ∧ x.Core.Lo ≤ x.Core.Hi ∧ x.Core.Hi ≤ 1000000
  earth : 1 ≤ x.Earth.Lo ∧ x.Earth.Lo ≤ x.Earth.Hi ∧ x.Earth.Hi ≤ 1000000
  rated : 1 ≤ x.Rated ∧ x.Rated ≤ 100000000
theorem cb_get {f : TFeFeeder} (hf : OK f) {i : Nat} (h : i < f.Nodes.length) (h0 : i ≠ 0) : f.Cables[(nd f i).Cable.toNat]? = some (cb f i) := by
  have := (node_ok hf h h0).cable
  unfold cb; rw [List.getD, List.getElem?_eq_getElem (by omega)]; rfl
theorem cb_av {f : TFeFeeder} (hf : OK f) {i : Nat} (h : i < f.Nodes.length) (h0 : i ≠ 0) : (List.map TFeCable.av f.Cables)[(nd f i).Cable.toNat]? = some (cb f i).av := by
  rw [List.getElem?_map, cb_get hf h h0]; rfl
theorem cb_ok {f : TFeFeeder} (hf : OK f) {i : Nat} (h : i < f.Nodes.length) (h0 : i ≠ 0) : CabOK (cb f i) := by
  have hc := (node_ok hf h h0).cable
  have h1 := errAt_rest (cb_get hf h h0) (hf.cables _ (by omega))
  unfold cableS at h1
  split at h1
  · rename_i h2
    simp only [Bool.and_eq_true] at h2
    exact ⟨wiB_iff.1 h2.1.1, wiB_iff.1 h2.1.2, inB_iff.1 h2.2⟩
  · cases h1
def sumL (g : Nat → Int) (l : List Nat) : Int := l.foldr (fun i s => g i + s) 0
theorem sumL_append {g : Nat → Int} {l r : List Nat} : sumL g (l ++ r) = sumL g l + sumL g r := by
  induction l with
  | nil => simp [sumL]
  | cons x l ih => simp only [sumL, List.cons_append, List.foldr_cons] at ih ⊢; omega
theorem sumL_reverse {g : Nat → Int} {l : List Nat} : sumL g l.reverse = sumL g l := by
  induction l with
  | nil => rfl
  | cons x l ih => rw [List.reverse_cons, sumL_append, ih]; simp only [sumL, List.foldr_cons, List.foldr_nil]; omega
theorem sumL_take {g : Nat → Int} {l : List Nat} {i x : Nat} (h : l[i]? = some x) : sumL g (l.take (i + 1)) = sumL g (l.take i) + g x := by
  rw [List.take_add_one, sumL_append, h]; simp only [sumL, Option.toList, List.foldr_cons, List.foldr_nil]; omega
theorem sumL_bound {g : Nat → Int} {l : List Nat} {B : Int} (h : ∀ i ∈ l, 0 ≤ g i ∧ g i ≤ B) : 0 ≤ sumL g l ∧ sumL g l ≤ l.length * B := by
  induction l with
  | nil => simp [sumL]
  | cons x l ih =>
    have h1 := ih fun i hi => h i (List.mem_cons_of_mem _ hi)
    have h2 := h x (by simp)
    have : ((x :: l).length : Int) * B = l.length * B + B := by rw [List.length_cons, Int.natCast_add, Int.add_mul]; omega
    simp only [sumL, List.foldr_cons] at h1 ⊢
    omega
theorem upL_mem {f : TFeFeeder} (hf : OK f) {i j : Nat} (h : i < f.Nodes.length) (hj : j ∈ upL f i) : j ≠ 0 ∧ j < f.Nodes.length ∧ j ≤ i := by
  have h1 : anc f j i = true := by unfold anc; exact List.contains_iff_mem.2 hj
  have := anc_le hf h h1
  omega
theorem upL_len {f : TFeFeeder} (hf : OK f) : ∀ {i : Nat}, i < f.Nodes.length → (upL f i).length ≤ i := by
  intro i
  induction i using Nat.strongRecOn with
  | ind i ih =>
    intro h
    by_cases h0 : i = 0
    · subst h0; exact Nat.le_refl _
    · have hp := (par_lt hf h h0).1
      rw [upL_succ hf h h0, List.length_cons]
      have := ih _ hp (by omega)
      omega
theorem take_bound {f : TFeFeeder} (hf : OK f) {g : Nat → Int} {B : Int} {node : Nat} (h : node < f.Nodes.length) (hB : 0 ≤ B) (hg : ∀ i, i < f.Nodes.length → i ≠ 0 → 0 ≤ g i ∧ g i ≤ B) (k : Nat) : 0 ≤ sumL g ((upL f node).take k) ∧ sumL g ((upL f node).take k) ≤ 40 * B := by
  have h1 := sumL_bound (g := g) (l := (upL f node).take k) (B := B) fun i hi => by
    have := upL_mem hf h (List.mem_of_mem_take hi)
    exact hg i this.2.1 this.1
  have h2 := upL_len hf h
  have h3 : ((upL f node).take k).length ≤ 40 := by rw [List.length_take]; have := hf.nn; omega
  have h4 : (((upL f node).take k).length : Int) * B ≤ 40 * B := Int.mul_le_mul_of_nonneg_right (by omega) hB
  omega
theorem halfD_bound {a b c : Int} (ha : 0 ≤ a ∧ a ≤ 40000000) (hb : 0 ≤ b ∧ b ≤ 40000000) (hc : 0 ≤ c ∧ c ≤ 40000000) : 0 ≤ halfD a b c ∧ halfD a b c ≤ 2400000000000000 := by
  have h1 := sqb (u := a - b) (by omega)
  have h2 := sqb (u := b - c) (by omega)
  have h3 := sqb (u := c - a) (by omega)
  unfold halfD; omega
theorem mostS_bound {x y z : TEncl} (hx : EOK x) (hy : EOK y) (hz : EOK z) : 0 ≤ mostS x y z ∧ mostS x y z ≤ 2400000000000000 := by
  unfold EOK at hx hy hz
  have key : ∀ a b c, (a = x.Lo ∨ a = x.Hi) → (b = y.Lo ∨ b = y.Hi) → (c = z.Lo ∨ c = z.Hi) → 0 ≤ halfD a b c ∧ halfD a b c ≤ 2400000000000000 := fun a b c h1 h2 h3 => halfD_bound (by omega) (by omega) (by omega)
  have k1 := key x.Lo y.Lo z.Lo (.inl rfl) (.inl rfl) (.inl rfl)
  have k2 := key x.Lo y.Lo z.Hi (.inl rfl) (.inl rfl) (.inr rfl)
  have k3 := key x.Lo y.Hi z.Lo (.inl rfl) (.inr rfl) (.inl rfl)
  have k4 := key x.Lo y.Hi z.Hi (.inl rfl) (.inr rfl) (.inr rfl)
  have k5 := key x.Hi y.Lo z.Lo (.inr rfl) (.inl rfl) (.inl rfl)
  have k6 := key x.Hi y.Lo z.Hi (.inr rfl) (.inl rfl) (.inr rfl)
  have k7 := key x.Hi y.Hi z.Lo (.inr rfl) (.inr rfl) (.inl rfl)
  have k8 := key x.Hi y.Hi z.Hi (.inr rfl) (.inr rfl) (.inr rfl)
  unfold mostS most2 most3
  omega
theorem neut_bound {x y z : TEncl} (hx : EOK x) (hy : EOK y) (hz : EOK z) : 0 ≤ neutS x y z ∧ neutS x y z ≤ 50000000 := by
  have h := mostS_bound hx hy hz
  have hr := rootS_spec (n := mostS x y z) (by omega)
  refine ⟨hr.nn, ?_⟩
  rcases hr.low with h' | h'
  · unfold neutS; omega
  · have h0 := hr.nn
    by_cases h1 : neutS x y z ≤ 50000000
    · exact h1
    · exfalso
      unfold neutS at h1
      have : 50000000 * 50000000 ≤ (rootS (mostS x y z) - 1) * (rootS (mostS x y z) - 1) := Int.mul_le_mul (by omega) (by omega) (by omega) (by omega)
      omega
def nOf (f : TFeFeeder) (p : Int) (i : Nat) : Int := (phE (curE f TFeNode.Loads0 i) (curE f TFeNode.Loads1 i) (curE f TFeNode.Loads2 i) p).Hi + neutS (curE f TFeNode.Loads0 i) (curE f TFeNode.Loads1 i) (curE f TFeNode.Loads2 i)
def rOf (f : TFeFeeder) (i : Nat) : Int := (nd f i).Length * (cb f i).Core.Hi
def wholeG (f : TFeFeeder) (p : Int) (i : Nat) : Int := rOf f i / 1000000 * nOf f p i
def millG (f : TFeFeeder) (p : Int) (i : Nat) : Int := rOf f i % 1000000 * nOf f p i
def dropS (f : TFeFeeder) (node : Nat) (p : Int) : Int := sumL (wholeG f p) (upL f node) + (sumL (millG f p) (upL f node) + 999999) / 1000000
theorem nOf_bound {f : TFeFeeder} (hf : OK f) (p : Int) (i : Nat) : 0 ≤ nOf f p i ∧ nOf f p i ≤ 90000000 := by
  have h0 := curE_ok hf _ (.inl rfl) i
  have h1 := curE_ok hf _ (.inr (.inl rfl)) i
  have h2 := curE_ok hf _ (.inr (.inr rfl)) i
  have := neut_bound h0 h1 h2
  unfold nOf phE
  split <;> (try split) <;> omega
theorem rOf_bound {f : TFeFeeder} (hf : OK f) {i : Nat} (h : i < f.Nodes.length) (h0 : i ≠ 0) : 1 ≤ rOf f i ∧ rOf f i ≤ 5000000000 := by
  have h1 := (node_ok hf h h0).len
  have h2 := (cb_ok hf h h0).core
  unfold rOf
  have g1 : 1 * 1 ≤ (nd f i).Length * (cb f i).Core.Hi := Int.mul_le_mul (by omega) (by omega) (by omega) (by omega)
  have g2 : (nd f i).Length * (cb f i).Core.Hi ≤ 5000 * 1000000 := Int.mul_le_mul (by omega) (by omega) (by omega) (by omega)
  omega
theorem whole_bound {f : TFeFeeder} (hf : OK f) (p : Int) {i : Nat} (h : i < f.Nodes.length) (h0 : i ≠ 0) : 0 ≤ wholeG f p i ∧ wholeG f p i ≤ 450000000000 := by
  have h1 := rOf_bound hf h h0
  have h2 := nOf_bound hf p i
  unfold wholeG
  refine ⟨Int.mul_nonneg (by omega) (by omega), ?_⟩
  have : rOf f i / 1000000 * nOf f p i ≤ 5000 * 90000000 := Int.mul_le_mul (by omega) (by omega) (by omega) (by omega)
  omega
theorem mill_bound {f : TFeFeeder} (hf : OK f) (p : Int) {i : Nat} (h : i < f.Nodes.length) (h0 : i ≠ 0) : 0 ≤ millG f p i ∧ millG f p i ≤ 90000000000000 := by
  have h1 := rOf_bound hf h h0
  have h2 := nOf_bound hf p i
  unfold millG
  refine ⟨Int.mul_nonneg (by omega) (by omega), ?_⟩
  have : rOf f i % 1000000 * nOf f p i ≤ 1000000 * 90000000 := Int.mul_le_mul (by omega) (by omega) (by omega) (by omega)
  omega
theorem fit_up {l : List Nat} : ∀ x ∈ l.map (fun i => [AV.int .i64 (i : Nat)]), fitL [.int .i64 0] x = true ∧ AV.treeL x = true := by
  intro x hx
  obtain ⟨i, _, rfl⟩ := List.mem_map.1 hx
  exact ⟨rfl, rfl⟩
theorem up_at {l : List Nat} {i : Nat} {n : Int} (h : (l.map (fun i => [AV.int .i64 (i : Nat)]))[i]? = some [.int .i64 n]) : ∃ x : Nat, n = x ∧ l[i]? = some x := by
  rw [List.getElem?_map] at h
  obtain ⟨x, hx, he⟩ := Option.map_eq_some_iff.1 h
  cases he
  exact ⟨x, rfl, hx⟩
def R62 (f : TFeFeeder) (node : Int) (phase : Int) (S : SpecF) (Fr : FuncId → List AV → Nat → List AV → Prop) (Sq : FuncId → List AV → List (List AV) → List (List AV) → Prop) (Q : AV → List (List AV) → Prop) : Prop :=
  ∃ xs0, Sq (125 : Nat) [AV.ref (0 : Nat) (0 : Nat), AV.ref (1 : Nat) (0 : Nat)] [[AV.int IntKind.i64 node], f.cs] xs0 ∧ (∀ (x3 : List AV), x3 ∈ xs0 → fitL [AV.int IntKind.i64 (0 : Int)] x3 = true ∧ AV.treeL x3 = true) ∧ ∃ (I3 : Nat → List AV → Prop), I3 (0 : Nat) [AV.agg [AV.int IntKind.i64 (0 : Int)], AV.agg [AV.int IntKind.i64 (0 : Int)]] ∧ (∀ (i6 : Nat) (n7 : Int), xs0[i6]? = some [AV.int IntKind.i64 n7] → ∀ (n9 n10 : Int), I3 i6 [AV.agg [AV.int IntKind.i64 n9], AV.agg [AV.int IntKind.i64 n10]] → ∃ s12 n13 n14 n15 n16 n17 n18 n19 n20 n21 n22, ((0 : Int) ≤ n7 ∧ (11 : Nat) = (11 : Nat) ∧ (List.map TFeNode.av f.Nodes)[n7.toNat]? = some (AV.agg [AV.str s12, AV.int IntKind.i64 n13, AV.int IntKind.i64 n14, AV.int IntKind.i64 n15, AV.int IntKind.i64 n16, AV.int IntKind.i64 n17, AV.int IntKind.i64 n18, AV.int IntKind.i64 n19, AV.int IntKind.i64 n20, AV.int IntKind.i64 n21, AV.int IntKind.i64 n22])) ∧ ∃ n24 n25 n26 n27 n28 n29, S (74 : Nat) [f.av, AV.int IntKind.i64 n7] [] (AV.agg [AV.int IntKind.i64 n24, AV.int IntKind.i64 n25, AV.int IntKind.i64 n26, AV.int IntKind.i64 n27, AV.int IntKind.i64 n28, AV.int IntKind.i64 n29]) [] ∧ ∃ s31 n32 n33 n34 n35 n36, ((0 : Int) ≤ n14 ∧ (6 : Nat) = (6 : Nat) ∧ (List.map TFeCable.av f.Cables)[n14.toNat]? = some (AV.agg [AV.str s31, AV.int IntKind.i64 n32, AV.int IntKind.i64 n33, AV.int IntKind.i64 n34, AV.int IntKind.i64 n35, AV.int IntKind.i64 n36])) ∧ ((0 : Int) ≤ phase ∧ phase < (3 : Int)) ∧ (phase = (2 : Int) → ∃ n41, S (75 : Nat) [AV.agg [AV.int IntKind.i64 n24, AV.int IntKind.i64 n25, AV.int IntKind.i64 n26, AV.int IntKind.i64 n27, AV.int IntKind.i64 n28, AV.int IntKind.i64 n29]] [] (AV.int IntKind.i64 n41) [] ∧ f.cs = f.cs ∧ [AV.int IntKind.i64 phase] = [AV.int IntKind.i64 phase] ∧ I3 (i6 + (1 : Nat)) [AV.agg [AV.int IntKind.i64 (IntKind.i64.wrap (n9 + IntKind.i64.wrap (IntKind.i64.wrap ((IntKind.i64.wrap (n15 * n33)).tdiv (1000000 : Int)) * IntKind.i64.wrap (n29 + n41))))], AV.agg [AV.int IntKind.i64 (IntKind.i64.wrap (n10 + IntKind.i64.wrap ((IntKind.i64.wrap (n15 * n33)).tmod (1000000 : Int) * IntKind.i64.wrap (n29 + n41))))]]) ∧ (phase = (1 : Int) → ∃ n42, S (75 : Nat) [AV.agg [AV.int IntKind.i64 n24, AV.int IntKind.i64 n25, AV.int IntKind.i64 n26, AV.int IntKind.i64 n27, AV.int IntKind.i64 n28, AV.int IntKind.i64 n29]] [] (AV.int IntKind.i64 n42) [] ∧ f.cs = f.cs ∧ [AV.int IntKind.i64 phase] = [AV.int IntKind.i64 phase] ∧ I3 (i6 + (1 : Nat)) [AV.agg [AV.int IntKind.i64 (IntKind.i64.wrap (n9 + IntKind.i64.wrap (IntKind.i64.wrap ((IntKind.i64.wrap (n15 * n33)).tdiv (1000000 : Int)) * IntKind.i64.wrap (n27 + n42))))], AV.agg [AV.int IntKind.i64 (IntKind.i64.wrap (n10 + IntKind.i64.wrap ((IntKind.i64.wrap (n15 * n33)).tmod (1000000 : Int) * IntKind.i64.wrap (n27 + n42))))]]) ∧ (phase = (0 : Int) → ∃ n43, S (75 : Nat) [AV.agg [AV.int IntKind.i64 n24, AV.int IntKind.i64 n25, AV.int IntKind.i64 n26, AV.int IntKind.i64 n27, AV.int IntKind.i64 n28, AV.int IntKind.i64 n29]] [] (AV.int IntKind.i64 n43) [] ∧ f.cs = f.cs ∧ [AV.int IntKind.i64 phase] = [AV.int IntKind.i64 phase] ∧ I3 (i6 + (1 : Nat)) [AV.agg [AV.int IntKind.i64 (IntKind.i64.wrap (n9 + IntKind.i64.wrap (IntKind.i64.wrap ((IntKind.i64.wrap (n15 * n33)).tdiv (1000000 : Int)) * IntKind.i64.wrap (n25 + n43))))], AV.agg [AV.int IntKind.i64 (IntKind.i64.wrap (n10 + IntKind.i64.wrap ((IntKind.i64.wrap (n15 * n33)).tmod (1000000 : Int) * IntKind.i64.wrap (n25 + n43))))]]) ∧ True) ∧ ∀ (n6 n7 : Int), I3 xs0.length [AV.agg [AV.int IntKind.i64 n6], AV.agg [AV.int IntKind.i64 n7]] → Q (AV.int IntKind.i64 (IntKind.i64.wrap (n6 + IntKind.i64.wrap ((IntKind.i64.wrap (IntKind.i64.wrap (n7 + (1000000 : Int)) - (1 : Int))).tdiv (1000000 : Int))))) []
theorem r62 (f : TFeFeeder) (node : Int) (phase : Int) (S : SpecF) (Fr : FuncId → List AV → Nat → List AV → Prop) (Sq : FuncId → List AV → List (List AV) → List (List AV) → Prop) (Q : AV → List (List AV) → Prop) : awpF Try.prog (mkS Try.prog S Fr Sq ⟨[], [], [74], [(104, ⟨[0, 1, 2, 3, 4], [], [], []⟩)], []⟩ 4) 0 ⟨[0, 1, 2, 3, 5, 6, 7, 8, 9, 10, 11, 12, 13, 16, 17], [⟨4, [], [], [(7, .agg [.int .i64 0]), (8, .agg [.int .i64 0])], [], [.int .i64 0]⟩], [], []⟩ Try.f62 [f.av, .int .i64 node, .int .i64 phase] [] Q = R62 f node phase S Fr Sq Q := by kernel_rfl
theorem s62 (f : TFeFeeder) (node : Int) (phase : Int) (v : AV) (O : List (List AV)) (h : R62 f node phase (SpecOf Try.prog) (FreshOf Try.prog) (SeqOf Try.prog) (fun r O' => r = v ∧ O' = O)) : SpecOf Try.prog 62 [f.av, .int .i64 node, .int .i64 phase] [] v O :=
  spec_by (boxes := []) mixed (by exact ⟨Try.call104, trivial⟩) Try.func62 Try.call62 rfl rfl rfl (Nat.le_of_ble_eq_true rfl) (r62 f node phase (SpecOf Try.prog) (FreshOf Try.prog) (SeqOf Try.prog) _) h
theorem c62 {f : TFeFeeder} (hf : OK f) (node : Nat) (h : node < f.Nodes.length) (p : Int) (hp : p = 0 ∨ p = 1 ∨ p = 2) : Sp 62 [f.av, .int .i64 node, .int .i64 p] [] (.int .i64 (dropS f node p)) [] := s62 f node p _ _ (by
  unfold R62
  refine ⟨_, c125 hf node h, fit_up, ?_⟩
  have tw := fun k => take_bound (g := wholeG f p) hf h (by decide) (fun i hi h0 => whole_bound hf p hi h0) k
  have tm := fun k => take_bound (g := millG f p) hf h (by decide) (fun i hi h0 => mill_bound hf p hi h0) k
  refine ⟨fun i vs => vs = [.agg [.int .i64 (sumL (wholeG f p) ((upL f node).take i))], .agg [.int .i64 (sumL (millG f p) ((upL f node).take i))]], rfl, ?_, ?_⟩
  · intro i n hi n1 n2 hv
    obtain ⟨x, rfl, hx⟩ := up_at hi
    cases hv
    have hmem := upL_mem hf h (List.mem_of_getElem? hx)
    obtain ⟨h0, hlt, _⟩ := hmem
    have hc := (node_ok hf hlt h0).cable
    have hrb := rOf_bound hf hlt h0
    have hnb := nOf_bound hf p x
    have hwb := whole_bound hf p hlt h0
    have hmb := mill_bound hf p hlt h0
    have t1 := tw i; have t2 := tm i; have t3 := tw (i + 1); have t4 := tm (i + 1)
    have e1 : IntKind.i64.wrap ((nd f x).Length * (cb f x).Core.Hi) = rOf f x := i64 (by unfold rOf at hrb; omega)
    have e2 : IntKind.i64.wrap ((rOf f x).tdiv 1000000) = rOf f x / 1000000 := by rw [Int.tdiv_eq_ediv_of_nonneg (by omega)]; exact i64 (by omega)
    have e3 : (rOf f x).tmod 1000000 = rOf f x % 1000000 := Int.tmod_eq_emod_of_nonneg (by omega)
    have fin : ∀ n : Int, n = nOf f p x → [AV.agg [AV.int .i64 (IntKind.i64.wrap (sumL (wholeG f p) ((upL f node).take i) + IntKind.i64.wrap (IntKind.i64.wrap ((IntKind.i64.wrap ((nd f x).Length * (cb f x).Core.Hi)).tdiv 1000000) * IntKind.i64.wrap n)))], AV.agg [AV.int .i64 (IntKind.i64.wrap (sumL (millG f p) ((upL f node).take i) + IntKind.i64.wrap ((IntKind.i64.wrap ((nd f x).Length * (cb f x).Core.Hi)).tmod 1000000 * IntKind.i64.wrap n)))]] =
        [.agg [.int .i64 (sumL (wholeG f p) ((upL f node).take (i + 1)))], .agg [.int .i64 (sumL (millG f p) ((upL f node).take (i + 1)))]] := by
      rintro n rfl
      rw [sumL_take hx] at t3 t4
      rw [sumL_take hx, sumL_take hx]
      rw [e1, e2, e3, i64 (n := nOf f p x) (by omega)]
      show [AV.agg [AV.int .i64 (IntKind.i64.wrap (_ + IntKind.i64.wrap (wholeG f p x)))], AV.agg [AV.int .i64 (IntKind.i64.wrap (_ + IntKind.i64.wrap (millG f p x)))]] = _
      rw [i64 (n := wholeG f p x) (by omega), i64 (n := millG f p x) (by omega), i64 (n := _ + wholeG f p x) (by omega), i64 (n := _ + millG f p x) (by omega)]
    have hneut := c75 (curE f TFeNode.Loads0 x) (curE f TFeNode.Loads1 x) (curE f TFeNode.Loads2 x) (curE_ok hf _ (.inl rfl) x) (curE_ok hf _ (.inr (.inl rfl)) x) (curE_ok hf _ (.inr (.inr rfl)) x)
    refine ⟨(nd f x).Name, (nd f x).Parent, (nd f x).Cable, (nd f x).Length, (nd f x).Fuse, (nd f x).Loads0.Lo, (nd f x).Loads0.Hi, (nd f x).Loads1.Lo, (nd f x).Loads1.Hi, (nd f x).Loads2.Lo, (nd f x).Loads2.Hi, ⟨by omega, rfl, nd_av hlt⟩, _, _, _, _, _, _, c74 hf x hlt h0, (cb f x).Name, (cb f x).Core.Lo, (cb f x).Core.Hi, (cb f x).Earth.Lo, (cb f x).Earth.Hi, (cb f x).Rated, ⟨hc.1, rfl, cb_av hf hlt h0⟩, ⟨by omega, by omega⟩, fun h2 => ⟨_, hneut, ?_⟩, fun h2 => ⟨_, hneut, ?_⟩, fun h2 => ⟨_, hneut, ?_⟩, trivial⟩
    · have e := fin _ (show _ = nOf f p x by rw [nOf, phE, if_neg (by omega), if_neg (by omega)])
      first | exact e | exact ⟨rfl, e⟩ | exact ⟨rfl, rfl, e⟩
    · have e := fin _ (show _ = nOf f p x by rw [nOf, phE, if_neg (by omega), if_pos (by omega)])
      first | exact e | exact ⟨rfl, e⟩ | exact ⟨rfl, rfl, e⟩
    · have e := fin _ (show _ = nOf f p x by rw [nOf, phE, if_pos (by omega)])
      first | exact e | exact ⟨rfl, e⟩ | exact ⟨rfl, rfl, e⟩
  · intro n1 n2 hv
    rw [List.length_map, List.take_length] at hv
    cases hv
    have t1 := tw (upL f node).length; have t2 := tm (upL f node).length
    rw [List.take_length] at t1 t2
    rw [i64 (n := sumL (millG f p) (upL f node) + 1000000) (by omega), i64 (n := sumL (millG f p) (upL f node) + 1000000 - 1) (by omega), Int.tdiv_eq_ediv_of_nonneg (by omega)]
    rw [i64 (n := (sumL (millG f p) (upL f node) + 1000000 - 1) / 1000000) (by omega), i64 (by omega)]
    exact ⟨by rw [dropS]; congr 3; omega, rfl⟩)
end Go.Proofs.Ytbdbnpnichkcjaa

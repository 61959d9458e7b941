/- FeedTrees: the current of a cable is the sum of the loads of its node and the currents of the cables behind it; no drop is less behind a node than at it, and a fault there has no greater current, for any feeder, node and phase. -/
import Derived.Test.YtbdbnpnichkcjaaK2
import Derived.Test.YtbdbnpnichkcjaaAw
import Derived.Test.YtbdbnpnichkcjaaO
namespace Go.Proofs.Ytbdbnpnichkcjaa.feedTreesDone
open Go.ChangeShapes Go.WideShapes Go.ChangeAt Go.RowKit Go.Proofs.Ytbdbnpnichkcjaa
theorem own : ownKnob Try.prog.godebug = none := by kernel_rfl
theorem laidOut : laidOutB Try.prog = true := by kernel_rfl
theorem un4 : Try.prog.underlying 4 = some .bool := by kernel_rfl
theorem psL : Try.f7.params.toList = [28, 3, 5] := by kernel_rfl
def R7 (f : TFeFeeder) (node : Int) (how : Int) (S : SpecF) (_Fr : FuncId → List AV → Nat → List AV → Prop) (_Sq : FuncId → List AV → List (List AV) → List (List AV) → Prop) (Q : AV → List (List AV) → Prop) : Prop :=
  ∃ n0 n1 n2 n3 n4 n5 n6, S (24 : Nat) [f.av, AV.int .i64 node] [] (AV.tup [AV.agg [AV.int .i64 n0, AV.int .i64 n1, AV.int .i64 n2, AV.int .i64 n3, AV.int .i64 n4, AV.int .i64 n5], AV.int .i64 n6]) [] ∧ ((n6 != (0 : Int)) = true → ∃ b10, S (17 : Nat) [] [] (AV.bool b10) [] ∧ Q (AV.bool b10) []) ∧ ((n6 != (0 : Int)) = false → (decide (node < (1 : Int)) = true → ∃ b12, S (17 : Nat) [] [] (AV.bool b12) [] ∧ Q (AV.bool b12) []) ∧ (decide (node < (1 : Int)) = false → (decide (node ≥ (↑(List.map TFeNode.av f.Nodes).length : Int)) = true → ∃ b14, S (17 : Nat) [] [] (AV.bool b14) [] ∧ Q (AV.bool b14) []) ∧ (decide (node ≥ (↑(List.map TFeNode.av f.Nodes).length : Int)) = false → ∃ s14 n15 n16 n17 n18 n19 n20 n21 n22 n23 n24, ((0 : Int) ≤ node ∧ (11 : Nat) = (11 : Nat) ∧ (List.map TFeNode.av f.Nodes)[node.toNat]? = some (AV.agg [AV.str s14, AV.int .i64 n15, AV.int .i64 n16, AV.int .i64 n17, AV.int .i64 n18, AV.int .i64 n19, AV.int .i64 n20, AV.int .i64 n21, AV.int .i64 n22, AV.int .i64 n23, AV.int .i64 n24])) ∧ ∃ n26 n27, S (18 : Nat) [f.av, AV.int .i64 node, AV.int .i64 ((IntKind.i64.wrap (IntKind.u8.wrap (how.tdiv (2 : Int)))).tmod (3 : Int))] [] (AV.tup [AV.int .i64 n26, AV.int .i64 n27]) [] ∧ ∃ n29 n30 n31, S (20 : Nat) [f.av, AV.int .i64 node, AV.bool (how.tmod (2 : Int) == (1 : Int))] [] (AV.tup [AV.agg [AV.int .i64 n29, AV.int .i64 n30], AV.int .i64 n31]) [] ∧ ((n27 != (0 : Int)) = true → Q (AV.bool false) []) ∧ ((n27 != (0 : Int)) = false → ((n31 != (0 : Int)) = true → Q (AV.bool false) []) ∧ ((n31 != (0 : Int)) = false → (decide (n29 > n30) = true → Q (AV.bool false) []) ∧ (decide (n29 > n30) = false → ∃ (I39 : Nat → List AV → Prop), (∃ m41, I39 m41 [AV.int .i64 (1 : Int), AV.agg [AV.int .i64 n19, AV.int .i64 n20, AV.int .i64 n21, AV.int .i64 n22, AV.int .i64 n23, AV.int .i64 n24]]) ∧ ∀ (m41 : Nat) (n42 n43 n44 n45 n46 n47 n48 : Int), I39 m41 [AV.int .i64 n42, AV.agg [AV.int .i64 n43, AV.int .i64 n44, AV.int .i64 n45, AV.int .i64 n46, AV.int .i64 n47, AV.int .i64 n48]] → (decide (n42 < (↑(List.map TFeNode.av f.Nodes).length : Int)) = true → ∃ s52 n53 n54 n55 n56 n57 n58 n59 n60 n61 n62, ((0 : Int) ≤ n42 ∧ (11 : Nat) = (11 : Nat) ∧ (List.map TFeNode.av f.Nodes)[n42.toNat]? = some (AV.agg [AV.str s52, AV.int .i64 n53, AV.int .i64 n54, AV.int .i64 n55, AV.int .i64 n56, AV.int .i64 n57, AV.int .i64 n58, AV.int .i64 n59, AV.int .i64 n60, AV.int .i64 n61, AV.int .i64 n62])) ∧ ((n53 != node) = true → f.cs = f.cs ∧ [AV.int .i64 n0, AV.int .i64 n1, AV.int .i64 n2, AV.int .i64 n3, AV.int .i64 n4, AV.int .i64 n5] = [AV.int .i64 n0, AV.int .i64 n1, AV.int .i64 n2, AV.int .i64 n3, AV.int .i64 n4, AV.int .i64 n5] ∧ [AV.int .i64 n29, AV.int .i64 n30] = [AV.int .i64 n29, AV.int .i64 n30] ∧ ∃ k69, k69 < m41 ∧ I39 k69 [AV.int .i64 (IntKind.i64.wrap (n42 + (1 : Int))), AV.agg [AV.int .i64 n43, AV.int .i64 n44, AV.int .i64 n45, AV.int .i64 n46, AV.int .i64 n47, AV.int .i64 n48]]) ∧ ((n53 != node) = false → ∃ n66 n67 n68 n69 n70 n71 n72, S (24 : Nat) [f.av, AV.int .i64 n42] [] (AV.tup [AV.agg [AV.int .i64 n66, AV.int .i64 n67, AV.int .i64 n68, AV.int .i64 n69, AV.int .i64 n70, AV.int .i64 n71], AV.int .i64 n72]) [] ∧ ∃ n74 n75, S (18 : Nat) [f.av, AV.int .i64 n42, AV.int .i64 ((IntKind.i64.wrap (IntKind.u8.wrap (how.tdiv (2 : Int)))).tmod (3 : Int))] [] (AV.tup [AV.int .i64 n74, AV.int .i64 n75]) [] ∧ ∃ n77 n78 n79, S (20 : Nat) [f.av, AV.int .i64 n42, AV.bool (how.tmod (2 : Int) == (1 : Int))] [] (AV.tup [AV.agg [AV.int .i64 n77, AV.int .i64 n78], AV.int .i64 n79]) [] ∧ ((n72 != (0 : Int)) = true → Q (AV.bool false) []) ∧ ((n72 != (0 : Int)) = false → ((n75 != (0 : Int)) = true → Q (AV.bool false) []) ∧ ((n75 != (0 : Int)) = false → ((n79 != (0 : Int)) = true → Q (AV.bool false) []) ∧ ((n79 != (0 : Int)) = false → (decide (n74 < n26) = true → Q (AV.bool false) []) ∧ (decide (n74 < n26) = false → (decide (n77 > n29) = true → Q (AV.bool false) []) ∧ (decide (n77 > n29) = false → (decide (n78 > n30) = true → Q (AV.bool false) []) ∧ (decide (n78 > n30) = false → f.cs = f.cs ∧ [AV.int .i64 n0, AV.int .i64 n1, AV.int .i64 n2, AV.int .i64 n3, AV.int .i64 n4, AV.int .i64 n5] = [AV.int .i64 n0, AV.int .i64 n1, AV.int .i64 n2, AV.int .i64 n3, AV.int .i64 n4, AV.int .i64 n5] ∧ [AV.int .i64 n29, AV.int .i64 n30] = [AV.int .i64 n29, AV.int .i64 n30] ∧ ∃ k96, k96 < m41 ∧ I39 k96 [AV.int .i64 (IntKind.i64.wrap (n42 + (1 : Int))), AV.agg [AV.int .i64 (IntKind.i64.wrap (n43 + n66)), AV.int .i64 (IntKind.i64.wrap (n44 + n67)), AV.int .i64 (IntKind.i64.wrap (n45 + n68)), AV.int .i64 (IntKind.i64.wrap (n46 + n69)), AV.int .i64 (IntKind.i64.wrap (n47 + n70)), AV.int .i64 (IntKind.i64.wrap (n48 + n71))]])))))))) ∧ (decide (n42 < (↑(List.map TFeNode.av f.Nodes).length : Int)) = false → ((n43 == n0 && (n44 == n1 && true) && (n45 == n2 && (n46 == n3 && true) && (n47 == n4 && (n48 == n5 && true) && true))) = true → ∃ b54, S (17 : Nat) [] [] (AV.bool b54) [] ∧ Q (AV.bool b54) []) ∧ ((n43 == n0 && (n44 == n1 && true) && (n45 == n2 && (n46 == n3 && true) && (n47 == n4 && (n48 == n5 && true) && true))) = false → Q (AV.bool false) []))))))))
theorem r7 (f : TFeFeeder) (node : Int) (how : Int) (S : SpecF) (Fr : FuncId → List AV → Nat → List AV → Prop) (Sq : FuncId → List AV → List (List AV) → List (List AV) → Prop) (Q : AV → List (List AV) → Prop) : awpF Try.prog (mkS Try.prog S Fr Sq ⟨[], [], [], [], []⟩ 0) 0 ⟨[0, 1, 2, 3, 6, 7, 8, 9, 10, 11, 12, 13, 14, 15, 16, 17, 18, 19, 20, 21, 22, 23, 47, 84, 89, 99, 148, 150], [⟨12, [(16, .int .i64 0)], [], [(12, .agg [.int .i64 0, .int .i64 0, .int .i64 0, .int .i64 0, .int .i64 0, .int .i64 0])], [], []⟩], [], []⟩ Try.f7 [f.av, .int .i64 node, .int .u8 how] [] Q = R7 f node how S Fr Sq Q := by kernel_rfl
theorem s7 (f : TFeFeeder) (node : Int) (how : Int) (v : AV) (O : List (List AV)) (h : R7 f node how (SpecOf Try.prog) (FreshOf Try.prog) (SeqOf Try.prog) (fun r O' => r = v ∧ O' = O)) : SpecOf Try.prog 7 [f.av, .int .i64 node, .int .u8 how] [] v O :=
  spec_by (boxes := []) mixed (by exact trivial) Try.func7 Try.call7 rfl rfl rfl (Nat.le_of_ble_eq_true rfl) (r7 f node how (SpecOf Try.prog) (FreshOf Try.prog) (SeqOf Try.prog) _) h
theorem c7 (f : TFeFeeder) (hn : NOK f) (node how : Int) : Sp 7 [f.av, .int .i64 node, .int .u8 how] [] (.bool true) [] := s7 f node how _ _ (by
  unfold R7
  have aw : ∃ b, Sp 17 [] [] (.bool b) [] ∧ AV.bool b = AV.bool true ∧ ([] : List (List AV)) = [] := ⟨_, c17, rfl, rfl⟩
  by_cases hin : innerS f node = 0
  case neg =>
    refine ⟨_, _, _, _, _, _, _, c24b f hn hin, fun _ => aw, fun h => ?_⟩
    simp at h; exact absurd h hin
  obtain ⟨hf, k, rfl, hk, hk0⟩ := inner_ok hin
  have hc := asked_check (inner_asked hin)
  have hnn := hf.nn
  refine ⟨_, _, _, _, _, _, _, c24a f hn hc hk hk0, fun _ => aw, fun _ => ⟨fun _ => aw, fun _ => ⟨fun _ => aw, fun _ => ?_⟩⟩⟩
  have hp := phase_u8 (how.tdiv 2)
  generalize (IntKind.i64.wrap (IntKind.u8.wrap (how.tdiv 2))).tmod 3 = p at hp
  generalize (how.tmod 2 == 1) = earth
  refine ⟨(nd f k).Name, (nd f k).Parent, (nd f k).Cable, (nd f k).Length, (nd f k).Fuse, (nd f k).Loads0.Lo, (nd f k).Loads0.Hi, (nd f k).Loads1.Lo, (nd f k).Loads1.Hi, (nd f k).Loads2.Lo, (nd f k).Loads2.Hi, ⟨by omega, rfl, nd_av hk⟩, _, _, c18a f hn hc hk hp, _, _, _, c20a f hn hc hk hk0 earth, fun h => ?_, fun _ => ⟨fun h => ?_, fun _ => ⟨fun h => ?_, fun _ => ?_⟩⟩⟩
  · simp at h
  · simp at h
  · have := fault_wf hf hk earth
    simp at h; omega
  simp only [List.length_map]
  let A : (TFeNode → TEncl) → Nat → TEncl := fun e j => accE f e ⟨0, 0⟩ k j
  have hl := fun e he => loads_ok hf e he k hk hk0
  have one : ∀ e : TFeNode → TEncl, (0 ≤ (e (nd f k)).Lo ∧ (e (nd f k)).Lo ≤ (e (nd f k)).Hi ∧ (e (nd f k)).Hi ≤ 1000000) → A e 1 = e (nd f k) := fun e he => by
    show accE f e ⟨0, 0⟩ k 1 = _
    rw [← accE_skip (k := 0) (by simp), accE_zero]; exact adE_zero (by omega)
  have fin : ∀ e : TFeNode → TEncl, (0 ≤ (curE f e k).Lo ∧ (curE f e k).Lo ≤ (curE f e k).Hi ∧ (curE f e k).Hi ≤ 40000000) → A e f.Nodes.length = curE f e k := fun e he => by
    show accE f e ⟨0, 0⟩ k f.Nodes.length = _
    rw [accE_end hf hk hk0]; exact adE_zero he
  refine ⟨fun m vs => ∃ i : Nat, 1 ≤ i ∧ i ≤ f.Nodes.length ∧ m = f.Nodes.length - i ∧ vs = [.int .i64 i, .agg (six (A TFeNode.Loads0 i) (A TFeNode.Loads1 i) (A TFeNode.Loads2 i))], ⟨_, 1, by omega, by omega, rfl, ?_⟩, ?_⟩
  · rw [one _ (hl _ (.inl rfl)), one _ (hl _ (.inr (.inl rfl))), one _ (hl _ (.inr (.inr rfl)))]; rfl
  rintro m n n1 n2 n3 n4 n5 n6 ⟨i, h1, hi, rfl, hv⟩
  cases hv
  refine ⟨fun g => ?_, fun g => ⟨fun _ => ⟨_, c17, rfl, by trivial⟩, fun h => ?_⟩⟩
  · have g : i < f.Nodes.length := by simpa using g
    have hi0 : i ≠ 0 := by omega
    have hpl := (par_lt hf g hi0).2
    have hw := wrapN (k := i) (by omega)
    refine ⟨(nd f i).Name, (nd f i).Parent, (nd f i).Cable, (nd f i).Length, (nd f i).Fuse, (nd f i).Loads0.Lo, (nd f i).Loads0.Hi, (nd f i).Loads1.Lo, (nd f i).Loads1.Hi, (nd f i).Loads2.Lo, (nd f i).Loads2.Hi, ⟨by omega, by trivial, nd_av g⟩, fun q => ?_, fun q => ?_⟩
    · repeat first | refine And.intro rfl ?_ | refine And.intro trivial ?_
      have hsk : ¬ (i ≠ 0 ∧ par f i = k) := by
        rintro ⟨_, e⟩
        simp at q; omega
      refine ⟨_, (by omega : f.Nodes.length - (i + 1) < f.Nodes.length - i), i + 1, by omega, by omega, rfl, ?_⟩
      have st : ∀ e, A e (i + 1) = A e i := fun e => (accE_skip hsk).symm
      rw [hw, st, st, st]; rfl
    · have hpar : par f i = k := by
        simp at q; omega
      have hd := drop_up hf g hi0 hpar p
      have hfu := fault_up hf g hi0 hpar earth
      refine ⟨_, _, _, _, _, _, _, c24a f hn hc g hi0, _, _, c18a f hn hc g hp, _, _, _, c20a f hn hc g hi0 earth, fun h => ?_, fun _ => ⟨fun h => ?_, fun _ => ⟨fun h => ?_, fun _ => ⟨fun h => ?_, fun _ => ⟨fun h => ?_, fun _ => ⟨fun h => ?_, fun _ => ?_⟩⟩⟩⟩⟩⟩
      · simp at h
      · simp at h
      · simp at h
      · simp at h; omega
      · simp at h; omega
      · simp at h; omega
      · repeat first | refine And.intro rfl ?_ | refine And.intro trivial ?_
        refine ⟨_, (by omega : f.Nodes.length - (i + 1) < f.Nodes.length - i), i + 1, by omega, by omega, rfl, ?_⟩
        have st : ∀ e, A e (i + 1) = adE (A e i) (curE f e i) := fun e => (accE_add hi0 hpar).symm
        rw [hw, st, st, st]; rfl
  · have : i = f.Nodes.length := by simp at g; omega
    subst this
    have f0 := fin _ (curE_ok hf _ (.inl rfl) k)
    have f1 := fin _ (curE_ok hf _ (.inr (.inl rfl)) k)
    have f2 := fin _ (curE_ok hf _ (.inr (.inr rfl)) k)
    rw [f0, f1, f2] at h
    simp at h)
set_option maxRecDepth 100000 in
theorem lifted (os : Os) (started : os.Started) (H : Type) (enc : TypeId × Value → H) :
    ReturnsInHanded {} Try.checked os 7 .any (Rows.feedTreesSpec.pre6 enc Try.prog Try.f7 Rows.feedTreesRow.domain false) (Rows.feedTreesSpec.post enc Try.prog Try.f7 false true false false) := by
  refine returnsInHanded_of_change (C := Try.checked) own started (by kernel_rfl) Try.func7
    (ChangeSpec.witness6 (enc := enc) (C := Try.checked) false ⟨#[], #[.agg #[.slice none 0 0, .slice none 0 0, .slice none 0 0, .int .i64 0, .int .i64 0, .int .i64 0, .int .i64 0, .int .i64 0, .int .i64 0], .int .i64 0, .int .u8 0], []⟩ 8 (by kernel_rfl) (by kernel_rfl) (by kernel_rfl) (by kernel_rfl)) ?_
  intro W base args ds gs before hval0 hW hcnd _
  have hval : ∀ (j : Nat) t v, Try.f7.params[j]? = some t → args[j]? = some v → Value.okWide Try.prog W .any base t v := hval0
  have hW' := hW
  obtain ⟨p, q, hA0, hV, rfl, hfz, hnd⟩ := hW
  have hA : DataW.TrodAll enc Try.prog W 0 (fun _ => true) true Try.f7.params.toList args.toList ds p := hA0
  rw [psL] at hA
  have hval : ∀ (j : Nat) t v, ([28, 3, 5] : List TypeId)[j]? = some t → args.toList[j]? = some v → Value.okWide Try.prog W .any base t v := fun j t v h1 h2 => hval j t v (by rw [← Array.getElem?_toList, psL]; exact h1) (by rw [← Array.getElem?_toList]; exact h2)
  have r := hA
  obtain ⟨v0, vs0, d0, ds0, p0, q0, hargs, rfl, rfl, h0, r⟩ := trodAll_cons r
  obtain ⟨v1, vs1, d1, ds1, p1, q1, rfl, rfl, rfl, h1, r⟩ := trodAll_cons r
  obtain ⟨v2, vs2, d2, ds2, p2, q2, rfl, rfl, rfl, h2, r⟩ := trodAll_cons r
  obtain ⟨rfl, rfl, rfl⟩ := trodAll_nil r
  obtain rfl : args = #[v0, v1, v2] := by cases args; simp_all
  obtain ⟨rfl, rfl⟩ := trodVars_none hV
  have lt0 : ∀ x ∈ p0, x.block < W.heap.size := by obtain ⟨m, hm⟩ := h0; exact DataW.trod_lt m _ _ _ hm
  obtain ⟨_, a0, c0, e0⟩ := arg_open (D := 8) (by kernel_rfl) h0 (hval 0 28 v0 rfl rfl)
  rw [show isAggT Try.prog 28 = true by kernel_rfl] at e0
  obtain ⟨f, rfl, hn⟩ := op28 c0
  have lt1 : ∀ x ∈ p1, x.block < W.heap.size := by obtain ⟨m, hm⟩ := h1; exact DataW.trod_lt m _ _ _ hm
  obtain ⟨_, a1, c1, e1⟩ := arg_open (D := 8) (by kernel_rfl) h1 (hval 1 3 v1 rfl rfl)
  rw [show isAggT Try.prog 3 = false by kernel_rfl] at e1
  obtain ⟨n1, rfl, _⟩ := cells_int (k := .i64) (by kernel_rfl) c1
  have lt2 : ∀ x ∈ p2, x.block < W.heap.size := by obtain ⟨m, hm⟩ := h2; exact DataW.trod_lt m _ _ _ hm
  obtain ⟨_, a2, c2, e2⟩ := arg_open (D := 8) (by kernel_rfl) h2 (hval 2 5 v2 rfl rfl)
  rw [show isAggT Try.prog 5 = false by kernel_rfl] at e2
  obtain ⟨n2, rfl, _⟩ := cells_int (k := .u8) (by kernel_rfl) c2
  have hr : Rvs (ofHeap W) none [f.av, .int .i64 n1, .int .u8 n2] #[v0, v1, v2] := ⟨rfl, fun j => by
    match j with
    | 0 => exact e0
    | 1 => exact e1
    | 2 => exact e2
    | j + 3 => exact .undef ..⟩
  refine (law_calls (c7 f hn n1 n2) hr).mono fun e W' ⟨he, bel⟩ => ?_
  subst he
  exact ⟨_, rfl, _, _, _, [], _, [], hW', trodAll_mk1 (shut_bool un4 _), (trodAll_cons_mk (Below.trod laidOut (by kernel_rfl) (of_decide_eq_true (by kernel_rfl)) h0 bel lt0) (trodAll_cons_mk (Below.trod laidOut (by kernel_rfl) (of_decide_eq_true (by kernel_rfl)) h1 bel lt1) (trodAll_cons_mk (Below.trod laidOut (by kernel_rfl) (of_decide_eq_true (by kernel_rfl)) h2 bel lt2) trodAll_mk0))), rfl, bel.frame _, fun h => by cases h⟩
theorem over : Rows.feedTreesRow.holds Try.pinned (OpenSpec.ofChange Rows.feedTreesSpec) :=
  OpenClaim.holds_of_wide 7 Try.f7 rfl rfl rfl rfl rfl rfl rfl ⟨rfl, rfl, rfl, rfl, rfl⟩ rfl rfl rfl rfl rfl (by kernel_rfl) Try.func7 (by kernel_rfl)
    (of_decide_eq_true (by kernel_rfl)) (by unfold Func.isWrapper; first | (rw [if_pos (by decide +kernel)]; kernel_rfl) | (rw [if_neg (by decide +kernel)]; exact ⟨rfl, rfl⟩))
    (fun os started H enc _ => lifted os started H enc)
theorem proved : Rows.FeedTreesSaid := over
#print axioms proved
end Go.Proofs.Ytbdbnpnichkcjaa.feedTreesDone

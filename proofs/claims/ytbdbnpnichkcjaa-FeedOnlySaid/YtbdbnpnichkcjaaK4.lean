/- Contracts: the path to a node. -/
import Derived.Test.YtbdbnpnichkcjaaU
namespace Go.Proofs.Ytbdbnpnichkcjaa
open Go.RowKit
def nJ (i : Nat) : AV := .int .i64 (i : Nat)
theorem flatJ (l : List Nat) : (l.map nJ).flatMap AV.cells = l.map nJ ∧ ones (l.map nJ) = true ∧ AV.normL (l.map nJ) = l.map nJ := by
  induction l with
  | nil => exact ⟨rfl, rfl, rfl⟩
  | cons x r ih =>
    refine ⟨by simp only [List.map_cons, List.flatMap_cons, ih.1]; rfl, ?_, ?_⟩
    · have := ih.2.1
      simp only [ones, List.map_cons, List.all_cons, Bool.and_eq_true] at this ⊢
      exact ⟨rfl, this⟩
    · simp only [List.map_cons, AV.normL, ih.2.2]; rfl
theorem cellsOf3 : Try.prog.cellsOf 3 = 1 := by kernel_rfl
theorem aggJ : isAggT Try.prog 3 = false := by kernel_rfl
theorem und3 : Try.prog.underlying 3 = some (.int .i64) := by kernel_rfl
/-- The list with its first k and its last k turned. -/
def swp (U : List Nat) (k : Nat) : List Nat := (List.range U.length).map fun t => U.getD (if t < k ∨ U.length ≤ t + k then U.length - 1 - t else t) 0
theorem swp_len {U : List Nat} {k : Nat} : (swp U k).length = U.length := by simp [swp]
theorem swp_get {U : List Nat} {k t : Nat} (h : t < U.length) : (swp U k)[t]? = some (U.getD (if t < k ∨ U.length ≤ t + k then U.length - 1 - t else t) 0) := by
  unfold swp; rw [List.getElem?_map, List.getElem?_range h]; rfl
theorem swp_zero {U : List Nat} : swp U 0 = U := by
  refine List.ext_getElem? fun t => ?_
  by_cases h : t < U.length
  · rw [swp_get h, if_neg (by omega), List.getD, List.getElem?_eq_getElem h]; rfl
  · rw [List.getElem?_eq_none (by rw [swp_len]; omega), List.getElem?_eq_none (by omega)]
theorem swp_end {U : List Nat} {k : Nat} (h : U.length ≤ 2 * k + 1) : swp U k = U.reverse := by
  refine List.ext_getElem? fun t => ?_
  by_cases ht : t < U.length
  · rw [swp_get ht, List.getElem?_reverse ht]
    have e : (if t < k ∨ U.length ≤ t + k then U.length - 1 - t else t) = U.length - 1 - t := by split <;> omega
    rw [e, List.getD, List.getElem?_eq_getElem (by omega)]; rfl
  · rw [List.getElem?_eq_none (by rw [swp_len]; omega), List.getElem?_eq_none (by rw [List.length_reverse]; omega)]
theorem swp_step {U : List Nat} {k : Nat} (h : 2 * k + 1 < U.length) : ((swp U k).set k ((swp U k).getD (U.length - 1 - k) 0)).set (U.length - 1 - k) ((swp U k).getD k 0) = swp U (k + 1) := by
  have g1 : (swp U k).getD (U.length - 1 - k) 0 = U.getD (U.length - 1 - k) 0 := by
    rw [List.getD, swp_get (by omega), if_neg (by omega)]; rfl
  have g2 : (swp U k).getD k 0 = U.getD k 0 := by
    rw [List.getD, swp_get (by omega), if_neg (by omega)]; rfl
  rw [g1, g2]
  refine List.ext_getElem? fun t => ?_
  by_cases ht : t < U.length
  · rw [swp_get ht]
    by_cases h1 : t = U.length - 1 - k
    · subst h1
      rw [List.getElem?_set_self (by rw [List.length_set, swp_len]; omega), if_pos (by omega)]
      have : U.length - 1 - (U.length - 1 - k) = k := by omega
      rw [this]
    · rw [List.getElem?_set_ne (by omega)]
      by_cases h2 : t = k
      · subst h2
        rw [List.getElem?_set_self (by rw [swp_len]; omega), if_pos (by omega)]
      · rw [List.getElem?_set_ne (by omega), swp_get ht]
        by_cases h3 : t < k ∨ U.length ≤ t + k
        · rw [if_pos h3, if_pos (by omega)]
        · rw [if_neg h3, if_neg (by omega)]
  · rw [List.getElem?_eq_none (by simp [swp_len]; omega), List.getElem?_eq_none (by rw [swp_len]; omega)]
theorem setJ {l : List Nat} {k x : Nat} (h : k < l.length) : setCells (l.map nJ) (0 + (k : Int).toNat * 1) [AV.int .i64 (x : Nat)] = (l.set k x).map nJ := by
  have e : 0 + (k : Int).toNat * 1 = k := by omega
  rw [e, List.map_set]
  unfold setCells
  rw [List.set_eq_take_append_cons_drop, if_pos (by simpa using h)]
  rfl
theorem partJ {l : List Nat} {k x : Nat} (h : l[k]? = some x) : Option.map AV.norm (partA Try.prog 3 (l.map nJ) (0 + (k : Int).toNat * 1)) = some (.int .i64 (x : Nat)) := by
  have e : 0 + (k : Int).toNat * 1 = k := by omega
  unfold partA
  rw [und3, e]
  simp only [List.getElem?_map, h]; rfl
theorem getD_get {l : List Nat} {k : Nat} (h : k < l.length) : l[k]? = some (l.getD k 0) := by
  rw [List.getD, List.getElem?_eq_getElem h]; rfl
def R89 (f : TFeFeeder) (node : Int) (_S : SpecF) (_Fr : FuncId → List AV → Nat → List AV → Prop) (Sq : FuncId → List AV → List (List AV) → List (List AV) → Prop) (Q : AV → List (List AV) → Prop) : Prop :=
  ∃ xs0, Sq (125 : Nat) [AV.ref (0 : Nat) (0 : Nat), AV.ref (1 : Nat) (0 : Nat)] [[AV.int .i64 node], f.cs] xs0 ∧ (∀ (x3 : List AV), x3 ∈ xs0 → fitL [AV.int .i64 (0 : Int)] x3 = true ∧ AV.treeL x3 = true) ∧ ∃ (I3 : Nat → List AV → Prop), I3 (0 : Nat) [AV.slc (3 : Nat) []] ∧ (∀ (i6 : Nat) (n7 : Int), xs0[i6]? = some [AV.int .i64 n7] → ∀ (es9 : List AV), I3 i6 [AV.slc (3 : Nat) es9] → elemsOf (1 : Nat) [AV.int .i64 n7] ∧ ((List.flatMap AV.cells es9).length = es9.length * Try.prog.cellsOf (3 : Nat) ∧ (es9.length + (1 : Nat) + (200 : Nat)) * (9 : Nat) ≤ (70368744177664 : Nat) ∧ ones [AV.int .i64 n7] = true ∧ ones (List.flatMap AV.cells es9) = true) ∧ f.cs = f.cs ∧ [AV.undef] = [AV.undef] ∧ ∃ es15, (es15.length = es9.length + (1 : Nat) ∧ List.flatMap AV.cells es15 = List.flatMap AV.cells es9 ++ [AV.int .i64 n7]) ∧ I3 (i6 + (1 : Nat)) [AV.slc (3 : Nat) es15]) ∧ ∀ (es6 : List AV), I3 xs0.length [AV.slc (3 : Nat) es6] → ∃ (I8 : Nat → List AV → Prop), (∃ m10, I8 m10 [AV.int .i64 (0 : Int), AV.int .i64 (IntKind.i64.wrap ((↑es6.length : Int) - (1 : Int))), AV.agg (AV.normL (List.flatMap AV.cells es6))]) ∧ ∀ (m10 : Nat) (n11 n12 : Int) (cs13 : List AV), I8 m10 [AV.int .i64 n11, AV.int .i64 n12, AV.agg cs13] → (decide (n11 < n12) = true → ((0 : Int) ≤ n12 ∧ n12 < (↑es6.length : Int) ∧ Try.prog.cellsOf (3 : Nat) = (1 : Nat)) ∧ ∃ n18, Option.map AV.norm (partA Try.prog (3 : Nat) (AV.agg cs13).cells ((0 : Nat) + n12.toNat * Try.prog.cellsOf (3 : Nat))) = some (AV.int .i64 n18) ∧ ((0 : Int) ≤ n11 ∧ n11 < (↑es6.length : Int) ∧ Try.prog.cellsOf (3 : Nat) = (1 : Nat)) ∧ ∃ n21, Option.map AV.norm (partA Try.prog (3 : Nat) (AV.agg cs13).cells ((0 : Nat) + n11.toNat * Try.prog.cellsOf (3 : Nat))) = some (AV.int .i64 n21) ∧ ((0 : Int) ≤ n11 ∧ n11 < (↑es6.length : Int) ∧ Try.prog.cellsOf (3 : Nat) = (1 : Nat)) ∧ (0 : Nat) + n11.toNat * Try.prog.cellsOf (3 : Nat) + (1 : Nat) ≤ (AV.agg cs13).cells.length ∧ ((0 : Int) ≤ n12 ∧ n12 < (↑es6.length : Int) ∧ Try.prog.cellsOf (3 : Nat) = (1 : Nat)) ∧ (0 : Nat) + n12.toNat * Try.prog.cellsOf (3 : Nat) + (1 : Nat) ≤ (setCells (AV.agg cs13).cells ((0 : Nat) + n11.toNat * Try.prog.cellsOf (3 : Nat)) [AV.int .i64 n18]).length ∧ f.cs = f.cs ∧ [AV.aslc ((48 : Nat) + ((13 : Nat) + nat_lit 0, nat_lit 3).fst) (0 : Nat) es6.length (Try.prog.cellsOf (3 : Nat)) (isAggT Try.prog (3 : Nat))] = [AV.aslc ((48 : Nat) + ((13 : Nat) + nat_lit 0, nat_lit 3).fst) (0 : Nat) es6.length (Try.prog.cellsOf (3 : Nat)) (isAggT Try.prog (3 : Nat))] ∧ ∃ k29, k29 < m10 ∧ I8 k29 [AV.int .i64 (IntKind.i64.wrap (n11 + (1 : Int))), AV.int .i64 (IntKind.i64.wrap (n12 - (1 : Int))), AV.agg (AV.normL (setCells (setCells (AV.agg cs13).cells ((0 : Nat) + n11.toNat * Try.prog.cellsOf (3 : Nat)) [AV.int .i64 n18]) ((0 : Nat) + n12.toNat * Try.prog.cellsOf (3 : Nat)) [AV.int .i64 n21]))]) ∧ (decide (n11 < n12) = false → ((0 : Nat) + es6.length * Try.prog.cellsOf (3 : Nat) ≤ (AV.agg cs13).cells.length ∧ ones (AV.agg cs13).cells = true) ∧ Q (AV.slc (3 : Nat) (chunks (Try.prog.cellsOf (3 : Nat)) (isAggT Try.prog (3 : Nat)) es6.length (List.drop (0 : Nat) (AV.agg cs13).cells))) [])
theorem r89 (f : TFeFeeder) (node : Int) (S : SpecF) (Fr : FuncId → List AV → Nat → List AV → Prop) (Sq : FuncId → List AV → List (List AV) → List (List AV) → Prop) (Q : AV → List (List AV) → Prop) : awpF Try.prog (mkS Try.prog S Fr Sq ⟨[], [], [], [(104, ⟨[0, 1, 2, 3, 4], [], [], []⟩), (117, ⟨[0, 2], [], [], []⟩), (130, ⟨[0, 1, 2, 4, 5, 6, 7], [⟨3, [], [], [], [(2, 0, 3)], [.int .i64 0]⟩], [], [(3, 1)]⟩), (118, ⟨[0, 2, 3, 9], [⟨1, [(2, .int .i64 0), (3, .int .i64 0)], [], [(2000000, .tup [])], [], []⟩], [], []⟩)], []⟩ 4) 0 ⟨[0, 1, 2, 4, 5], [], [], []⟩ Try.f89 [f.av, .int .i64 node] [] Q = R89 f node S Fr Sq Q := by kernel_rfl
theorem s89 (f : TFeFeeder) (node : Int) (v : AV) (O : List (List AV)) (h : R89 f node (SpecOf Try.prog) (FreshOf Try.prog) (SeqOf Try.prog) (fun r O' => r = v ∧ O' = O)) : SpecOf Try.prog 89 [f.av, .int .i64 node] [] v O :=
  spec_by (boxes := []) mixed (by exact ⟨Try.call104, ⟨Try.call117, ⟨Try.call130, ⟨Try.call118, trivial⟩⟩⟩⟩) Try.func89 Try.call89 rfl rfl rfl (Nat.le_of_ble_eq_true rfl) (r89 f node (SpecOf Try.prog) (FreshOf Try.prog) (SeqOf Try.prog) _) h
theorem c89 {f : TFeFeeder} (hf : OK f) (node : Nat) (h : node < f.Nodes.length) : Sp 89 [f.av, .int .i64 node] [] (.slc 3 ((upL f node).reverse.map nJ)) [] := s89 f node _ _ (by
  unfold R89
  have hul := upL_len hf h
  have hnn := hf.nn
  refine ⟨_, c125 hf node h, fit_up, ?_⟩
  generalize upL f node = U at hul
  refine ⟨fun i vs => vs = [.slc 3 ((U.take i).map nJ)], rfl, ?_, ?_⟩
  · intro i n hi es hv
    obtain ⟨x, rfl, hx⟩ := up_at hi
    cases hv
    have hlen : (U.take i).length ≤ 40 := by rw [List.length_take]; omega
    obtain ⟨f1, f2, f3⟩ := flatJ (U.take i)
    refine ⟨?_, ⟨by rw [f1, cellsOf3]; simp, by rw [List.length_map]; omega, rfl, by rw [f1]; exact f2⟩, ?_⟩
    · intro v hv; rw [List.mem_singleton] at hv; rw [hv]; rfl
    · repeat first | refine And.intro rfl ?_ | refine And.intro trivial ?_
      have hs : U.take (i + 1) = U.take i ++ [x] := by rw [List.take_add_one, hx]; rfl
      refine ⟨(U.take (i + 1)).map nJ, ⟨by rw [hs]; simp, ?_⟩, rfl⟩
      rw [(flatJ (U.take (i + 1))).1, f1, hs, List.map_append]; rfl
  · intro es hv
    rw [List.length_map, List.take_length] at hv
    cases hv
    obtain ⟨f1, f2, f3⟩ := flatJ U
    rw [f1, f3, cellsOf3, aggJ]
    simp only [List.length_map]
    refine ⟨fun m vs => ∃ k : Nat, 2 * k ≤ U.length ∧ m = U.length - k ∧ vs = [.int .i64 k, .int .i64 ((U.length : Int) - 1 - k), .agg ((swp U k).map nJ)], ⟨_, 0, by omega, rfl, ?_⟩, ?_⟩
    · rw [swp_zero, i64 (by omega)]; simp
    rintro m n1 n2 cs ⟨k, hk, rfl, hv⟩
    cases hv
    refine ⟨fun g => ?_, fun g => ?_⟩
    · have g : (k : Int) < (U.length : Int) - 1 - k := by simpa using g
      have ej : (U.length : Int) - 1 - k = ((U.length - 1 - k : Nat) : Int) := by omega
      have sl := swp_len (U := U) (k := k)
      rw [ej]
      show _ ∧ ∃ n18, Option.map AV.norm (partA Try.prog 3 ((swp U k).map nJ) _) = _ ∧ _
      have gk := getD_get (l := swp U k) (k := k) (by omega)
      have gj := getD_get (l := swp U k) (k := U.length - 1 - k) (by omega)
      refine ⟨⟨by omega, by omega, by trivial⟩, _, partJ gj, ⟨by omega, by omega, by trivial⟩, _, partJ gk, ⟨by omega, by omega, by trivial⟩, ?_, ⟨by omega, by omega, by trivial⟩, ?_, ?_⟩
      · show _ ≤ ((swp U k).map nJ).length
        rw [List.length_map]; omega
      · show _ ≤ (setCells ((swp U k).map nJ) _ _).length
        rw [setJ (by omega), List.length_map, List.length_set]; omega
      · repeat first | refine And.intro rfl ?_ | refine And.intro trivial ?_
        refine ⟨_, (by omega : U.length - (k + 1) < U.length - k), k + 1, by omega, rfl, ?_⟩
        show [_, _, AV.agg (AV.normL (setCells (setCells ((swp U k).map nJ) _ _) _ _))] = _
        have e1 : IntKind.i64.wrap ((k : Int) + 1) = ((k + 1 : Nat) : Int) := wrapN (by omega)
        have e2 : IntKind.i64.wrap (((U.length - 1 - k : Nat) : Int) - 1) = (U.length : Int) - 1 - ((k + 1 : Nat) : Int) := by rw [i64 (by omega)]; omega
        rw [setJ (by omega), setJ (by rw [List.length_set]; omega), (flatJ _).2.2, swp_step (by omega), e1, e2]
    · have g : ¬ (k : Int) < (U.length : Int) - 1 - k := by simpa using g
      have he : swp U k = U.reverse := swp_end (by omega)
      rw [he]
      obtain ⟨r1, r2, r3⟩ := flatJ U.reverse
      refine ⟨⟨?_, r2⟩, ?_⟩
      · show _ ≤ (U.reverse.map nJ).length
        rw [List.length_map, List.length_reverse]; omega
      · show AV.slc 3 (chunks 1 false U.length (List.drop 0 (U.reverse.map nJ))) = _ ∧ _
        refine ⟨?_, by trivial⟩
        simp only [chunks, List.drop_zero]; rw [if_neg (by simp), List.take_of_length_le (by simp)])
def pathR (f : TFeFeeder) (node : Int) : List Nat × Int := if askedS f node ≠ 0 then ([], askedS f node) else ((upL f node.toNat).reverse, 0)
def R36 (f : TFeFeeder) (node : Int) (S : SpecF) (_Fr : FuncId → List AV → Nat → List AV → Prop) (_Sq : FuncId → List AV → List (List AV) → List (List AV) → Prop) (Q : AV → List (List AV) → Prop) : Prop :=
  ∃ n0, S (61 : Nat) [f.av, AV.int .i64 node] [] (AV.int .i64 n0) [] ∧ ((n0 != (0 : Int)) = true → Q (AV.tup [AV.slc (3 : Nat) [], AV.int .i64 n0]) []) ∧ ((n0 != (0 : Int)) = false → ∃ es4, S (89 : Nat) [f.av, AV.int .i64 node] [] (AV.slc (3 : Nat) es4) [] ∧ Q (AV.tup [AV.slc (3 : Nat) es4, AV.int .i64 (0 : Int)]) [])
theorem r36 (f : TFeFeeder) (node : Int) (S : SpecF) (Fr : FuncId → List AV → Nat → List AV → Prop) (Sq : FuncId → List AV → List (List AV) → List (List AV) → Prop) (Q : AV → List (List AV) → Prop) : awpF Try.prog (mkS Try.prog S Fr Sq ⟨[], [], [], [], []⟩ 0) 0 ⟨[0, 1, 2, 4, 5, 6, 11], [], [], []⟩ Try.f36 [f.av, .int .i64 node] [] Q = R36 f node S Fr Sq Q := by kernel_rfl
theorem s36 (f : TFeFeeder) (node : Int) (v : AV) (O : List (List AV)) (h : R36 f node (SpecOf Try.prog) (FreshOf Try.prog) (SeqOf Try.prog) (fun r O' => r = v ∧ O' = O)) : SpecOf Try.prog 36 [f.av, .int .i64 node] [] v O :=
  spec_by (boxes := []) mixed (by exact trivial) Try.func36 Try.call36 rfl rfl rfl (Nat.le_of_ble_eq_true rfl) (r36 f node (SpecOf Try.prog) (FreshOf Try.prog) (SeqOf Try.prog) _) h
theorem c36 (f : TFeFeeder) (hn : NOK f) (node : Int) : Sp 36 [f.av, .int .i64 node] [] (.tup [.slc 3 ((pathR f node).1.map nJ), .int .i64 (pathR f node).2]) [] := s36 f node _ _ (by
  refine ⟨_, c61 f hn node, fun h => ⟨?_, rfl⟩, fun h => ?_⟩
  · have h : askedS f node ≠ 0 := by simpa using h
    rw [pathR, if_pos h]; rfl
  · have h : askedS f node = 0 := by simpa using h
    obtain ⟨hf, k, rfl, hk⟩ := asked_ok h
    refine ⟨_, c89 hf k hk, ?_, rfl⟩
    rw [pathR, if_neg (by rw [h]; simp)]; rfl)
end Go.Proofs.Ytbdbnpnichkcjaa

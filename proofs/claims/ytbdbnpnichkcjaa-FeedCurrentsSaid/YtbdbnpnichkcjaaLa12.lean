/- FeedCurrents: Path, Currents and Neutral return what the document says, for any feeder and node. -/
import Derived.Test.YtbdbnpnichkcjaaRm
import Derived.Test.YtbdbnpnichkcjaaAw
import Derived.Test.YtbdbnpnichkcjaaO
namespace Go.Proofs.Ytbdbnpnichkcjaa.feedCurrentsDone
open Go.ChangeShapes Go.WideShapes Go.ChangeAt Go.RowKit Go.Proofs.Ytbdbnpnichkcjaa
theorem own : ownKnob Try.prog.godebug = none := by kernel_rfl
theorem laidOut : laidOutB Try.prog = true := by kernel_rfl
theorem un4 : Try.prog.underlying 4 = some .bool := by kernel_rfl
theorem psL : Try.f12.params.toList = [28, 3] := by kernel_rfl
theorem path_len (f : TFeFeeder) (node : Int) : (pathR f node).1.length ≤ 1000 := by
  unfold pathR
  split
  · simp
  · rename_i h
    obtain ⟨hf, k, rfl, hk⟩ := asked_ok (by simpa using h : askedS f node = 0)
    have := upL_len hf hk
    have := hf.nn
    simp; omega
def R12 (f : TFeFeeder) (node : Int) (S : SpecF) (_Fr : FuncId → List AV → Nat → List AV → Prop) (_Sq : FuncId → List AV → List (List AV) → List (List AV) → Prop) (Q : AV → List (List AV) → Prop) : Prop :=
  ∃ es0 n1, S (36 : Nat) [f.av, AV.int .i64 node] [] (AV.tup [AV.slc (3 : Nat) es0, AV.int .i64 n1]) [] ∧ ∃ es3 n4, S (37 : Nat) [f.av, AV.int .i64 node] [] (AV.tup [AV.slc (3 : Nat) es3, AV.int .i64 n4]) [] ∧ ((n1 != n4) = true → Q (AV.bool false) []) ∧ ((n1 != n4) = false → ∃ b8, S (38 : Nat) [AV.slc (3 : Nat) es0, AV.slc (3 : Nat) es3] [] (AV.bool b8) [] ∧ ((!b8) = true → Q (AV.bool false) []) ∧ ((!b8) = false → ∃ n12 n13 n14 n15 n16 n17 n18, S (24 : Nat) [f.av, AV.int .i64 node] [] (AV.tup [AV.agg [AV.int .i64 n12, AV.int .i64 n13, AV.int .i64 n14, AV.int .i64 n15, AV.int .i64 n16, AV.int .i64 n17], AV.int .i64 n18]) [] ∧ ∃ n20 n21 n22 n23 n24 n25 n26, S (39 : Nat) [f.av, AV.int .i64 node] [] (AV.tup [AV.agg [AV.int .i64 n20, AV.int .i64 n21, AV.int .i64 n22, AV.int .i64 n23, AV.int .i64 n24, AV.int .i64 n25], AV.int .i64 n26]) [] ∧ ((!(n12 == n20 && (n13 == n21 && true) && (n14 == n22 && (n15 == n23 && true) && (n16 == n24 && (n17 == n25 && true) && true)))) = true → Q (AV.bool false) []) ∧ ((!(n12 == n20 && (n13 == n21 && true) && (n14 == n22 && (n15 == n23 && true) && (n16 == n24 && (n17 == n25 && true) && true)))) = false → ((n18 != n26) = true → Q (AV.bool false) []) ∧ ((n18 != n26) = false → ∃ n32 n33, S (26 : Nat) [f.av, AV.int .i64 node] [] (AV.tup [AV.int .i64 n32, AV.int .i64 n33]) [] ∧ ∃ n35 n36, S (40 : Nat) [f.av, AV.int .i64 node] [] (AV.tup [AV.int .i64 n35, AV.int .i64 n36]) [] ∧ ((n32 == n35) = true → ((n33 == n36) = true → ∃ b42, S (17 : Nat) [] [] (AV.bool b42) [] ∧ Q (AV.bool b42) []) ∧ ((n33 == n36) = false → Q (AV.bool false) [])) ∧ ((n32 == n35) = false → Q (AV.bool false) [])))))
theorem r12 (f : TFeFeeder) (node : Int) (S : SpecF) (Fr : FuncId → List AV → Nat → List AV → Prop) (Sq : FuncId → List AV → List (List AV) → List (List AV) → Prop) (Q : AV → List (List AV) → Prop) : awpF Try.prog (mkS Try.prog S Fr Sq ⟨[], [], [], [], []⟩ 0) 0 ⟨[0, 1, 2, 4, 5, 6, 7, 8, 9, 10, 11, 12, 33, 53], [], [], []⟩ Try.f12 [f.av, .int .i64 node] [] Q = R12 f node S Fr Sq Q := by kernel_rfl
theorem s12 (f : TFeFeeder) (node : Int) (v : AV) (O : List (List AV)) (h : R12 f node (SpecOf Try.prog) (FreshOf Try.prog) (SeqOf Try.prog) (fun r O' => r = v ∧ O' = O)) : SpecOf Try.prog 12 [f.av, .int .i64 node] [] v O :=
  spec_by (boxes := []) mixed (by exact trivial) Try.func12 Try.call12 rfl rfl rfl (Nat.le_of_ble_eq_true rfl) (r12 f node (SpecOf Try.prog) (FreshOf Try.prog) (SeqOf Try.prog) _) h
theorem c12 (f : TFeFeeder) (hn : NOK f) (node : Int) : Sp 12 [f.av, .int .i64 node] [] (.bool true) [] := s12 f node _ _ (by
  unfold R12
  have hl := path_len f node
  have e1 : (pathR f node).1.map nJ = ((pathR f node).1.map (fun x : Nat => (x : Int))).map (AV.int .i64) := by rw [List.map_map]; rfl
  have e2 : (pathR f node).1.map nI = ((pathR f node).1.map (fun x : Nat => (x : Int))).map (AV.int .i64) := by rw [List.map_map]; rfl
  have h36 := c36 f hn node
  have h37 := c37 f hn node
  rw [e1] at h36; rw [e2] at h37
  obtain ⟨X, Y, Z, e⟩ : ∃ X Y Z : TEncl, (curR f node).1 = six X Y Z := by
    unfold curR
    split
    · exact ⟨_, _, _, rfl⟩
    · exact ⟨_, _, _, rfl⟩
  have h24 := c24 f hn node
  have h39 := c39 f hn node
  rw [e] at h24 h39
  refine ⟨_, _, h36, _, _, h37, fun h => ?_, fun _ => ⟨_, c38 _ (by rw [List.length_map]; omega), fun h => ?_, fun _ => ⟨_, _, _, _, _, _, _, h24, _, _, _, _, _, _, _, h39, fun h => ?_, fun _ => ⟨fun h => ?_, fun _ => ⟨_, _, c26 f hn node, _, _, c40 f hn node, fun _ => ⟨fun _ => ⟨_, c17, rfl, rfl⟩, fun h => ?_⟩, fun h => ?_⟩⟩⟩⟩⟩ <;> simp at h)
set_option maxRecDepth 100000 in
theorem lifted (os : Os) (started : os.Started) (H : Type) (enc : TypeId × Value → H) :
    ReturnsInHanded {} Try.checked os 12 .any (Rows.feedCurrentsSpec.pre6 enc Try.prog Try.f12 Rows.feedCurrentsRow.domain false) (Rows.feedCurrentsSpec.post enc Try.prog Try.f12 false true false false) := by
  refine returnsInHanded_of_change (C := Try.checked) own started (by kernel_rfl) Try.func12
    (ChangeSpec.witness6 (enc := enc) (C := Try.checked) false ⟨#[], #[.agg #[.slice none 0 0, .slice none 0 0, .slice none 0 0, .int .i64 0, .int .i64 0, .int .i64 0, .int .i64 0, .int .i64 0, .int .i64 0], .int .i64 0], []⟩ 8 (by kernel_rfl) (by kernel_rfl) (by kernel_rfl) (by kernel_rfl)) ?_
  intro W base args ds gs before hval0 hW hcnd _
  have hval : ∀ (j : Nat) t v, Try.f12.params[j]? = some t → args[j]? = some v → Value.okWide Try.prog W .any base t v := hval0
  have hW' := hW
  obtain ⟨p, q, hA0, hV, rfl, hfz, hnd⟩ := hW
  have hA : DataW.TrodAll enc Try.prog W 0 (fun _ => true) true Try.f12.params.toList args.toList ds p := hA0
  rw [psL] at hA
  have hval : ∀ (j : Nat) t v, ([28, 3] : List TypeId)[j]? = some t → args.toList[j]? = some v → Value.okWide Try.prog W .any base t v := fun j t v h1 h2 => hval j t v (by rw [← Array.getElem?_toList, psL]; exact h1) (by rw [← Array.getElem?_toList]; exact h2)
  have r := hA
  obtain ⟨v0, vs0, d0, ds0, p0, q0, hargs, rfl, rfl, h0, r⟩ := trodAll_cons r
  obtain ⟨v1, vs1, d1, ds1, p1, q1, rfl, rfl, rfl, h1, r⟩ := trodAll_cons r
  obtain ⟨rfl, rfl, rfl⟩ := trodAll_nil r
  obtain rfl : args = #[v0, v1] := by cases args; simp_all
  obtain ⟨rfl, rfl⟩ := trodVars_none hV
  have lt0 : ∀ x ∈ p0, x.block < W.heap.size := by obtain ⟨m, hm⟩ := h0; exact DataW.trod_lt m _ _ _ hm
  obtain ⟨_, a0, c0, e0⟩ := arg_open (D := 8) (by kernel_rfl) h0 (hval 0 28 v0 rfl rfl)
  rw [show isAggT Try.prog 28 = true by kernel_rfl] at e0
  obtain ⟨f, rfl, hn⟩ := op28 c0
  have lt1 : ∀ x ∈ p1, x.block < W.heap.size := by obtain ⟨m, hm⟩ := h1; exact DataW.trod_lt m _ _ _ hm
  obtain ⟨_, a1, c1, e1⟩ := arg_open (D := 8) (by kernel_rfl) h1 (hval 1 3 v1 rfl rfl)
  rw [show isAggT Try.prog 3 = false by kernel_rfl] at e1
  obtain ⟨n1, rfl, _⟩ := cells_int (k := .i64) (by kernel_rfl) c1
  have hr : Rvs (ofHeap W) none [f.av, .int .i64 n1] #[v0, v1] := ⟨rfl, fun j => by
    match j with
    | 0 => exact e0
    | 1 => exact e1
    | j + 2 => exact .undef ..⟩
  refine (law_calls (c12 f hn n1) hr).mono fun e W' ⟨he, bel⟩ => ?_
  subst he
  exact ⟨_, rfl, _, _, _, [], _, [], hW', trodAll_mk1 (shut_bool un4 _), (trodAll_cons_mk (Below.trod laidOut (by kernel_rfl) (of_decide_eq_true (by kernel_rfl)) h0 bel lt0) (trodAll_cons_mk (Below.trod laidOut (by kernel_rfl) (of_decide_eq_true (by kernel_rfl)) h1 bel lt1) trodAll_mk0)), rfl, bel.frame _, fun h => by cases h⟩
theorem over : Rows.feedCurrentsRow.holds Try.pinned (OpenSpec.ofChange Rows.feedCurrentsSpec) :=
  OpenClaim.holds_of_wide 12 Try.f12 rfl rfl rfl rfl rfl rfl rfl ⟨rfl, rfl, rfl, rfl, rfl⟩ rfl rfl rfl rfl rfl (by kernel_rfl) Try.func12 (by kernel_rfl)
    (of_decide_eq_true (by kernel_rfl)) (by unfold Func.isWrapper; first | (rw [if_pos (by decide +kernel)]; kernel_rfl) | (rw [if_neg (by decide +kernel)]; exact ⟨rfl, rfl⟩))
    (fun os started H enc _ => lifted os started H enc)
theorem proved : Rows.FeedCurrentsSaid := over
#print axioms proved
end Go.Proofs.Ytbdbnpnichkcjaa.feedCurrentsDone

/- FeedJudges: Judge returns what the document says, for any feeder. -/
import Derived.Test.YtbdbnpnichkcjaaRl
import Derived.Test.YtbdbnpnichkcjaaAw
import Derived.Test.YtbdbnpnichkcjaaO
namespace Go.Proofs.Ytbdbnpnichkcjaa.feedJudgesDone
open Go.ChangeShapes Go.WideShapes Go.ChangeAt Go.RowKit Go.Proofs.Ytbdbnpnichkcjaa
theorem own : ownKnob Try.prog.godebug = none := by kernel_rfl
theorem laidOut : laidOutB Try.prog = true := by kernel_rfl
theorem un4 : Try.prog.underlying 4 = some .bool := by kernel_rfl
theorem psL : Try.f5.params.toList = [28] := by kernel_rfl
theorem judge_len (f : TFeFeeder) : (judgeR f).1.length ≤ 3600 := by
  unfold judgeR
  split
  · simp
  · rename_i h
    have hf := ok_of (by simpa using h)
    have := judgeL_len hf f.Nodes.length (Nat.le_refl _)
    have := hf.nn
    dsimp only; omega
def R5 (f : TFeFeeder) (S : SpecF) (_Fr : FuncId → List AV → Nat → List AV → Prop) (_Sq : FuncId → List AV → List (List AV) → List (List AV) → Prop) (Q : AV → List (List AV) → Prop) : Prop :=
  ∃ es0 n1, S (22 : Nat) [f.av] [] (AV.tup [AV.slc (3 : Nat) es0, AV.int .i64 n1]) [] ∧ ∃ es3 n4, S (23 : Nat) [f.av] [] (AV.tup [AV.slc (3 : Nat) es3, AV.int .i64 n4]) [] ∧ ((n1 != n4) = true → Q (AV.bool false) []) ∧ ((n1 != n4) = false → (((↑es0.length : Int) != (↑es3.length : Int)) = true → Q (AV.bool false) []) ∧ (((↑es0.length : Int) != (↑es3.length : Int)) = false → ∃ (I10 : Nat → List AV → Prop), (∃ m12, I10 m12 [AV.int .i64 (0 : Int)]) ∧ ∀ (m12 : Nat) (n13 : Int), I10 m12 [AV.int .i64 n13] → (decide (n13 < (↑es0.length : Int)) = true → ∃ n17 n18 n19, ((0 : Int) ≤ n13 ∧ (3 : Nat) = (3 : Nat) ∧ es0[n13.toNat]? = some (AV.agg [AV.int .i64 n17, AV.int .i64 n18, AV.int .i64 n19])) ∧ ∃ n21 n22 n23, ((0 : Int) ≤ n13 ∧ (3 : Nat) = (3 : Nat) ∧ es3[n13.toNat]? = some (AV.agg [AV.int .i64 n21, AV.int .i64 n22, AV.int .i64 n23])) ∧ ((!(n17 == n21 && (n18 == n22 && (n19 == n23 && true)))) = true → Q (AV.bool false) []) ∧ ((!(n17 == n21 && (n18 == n22 && (n19 == n23 && true)))) = false → f.cs = f.cs ∧ ∃ k28, k28 < m12 ∧ I10 k28 [AV.int .i64 (IntKind.i64.wrap (n13 + (1 : Int)))])) ∧ (decide (n13 < (↑es0.length : Int)) = false → ∃ b17, S (17 : Nat) [] [] (AV.bool b17) [] ∧ Q (AV.bool b17) [])))
theorem r5 (f : TFeFeeder) (S : SpecF) (Fr : FuncId → List AV → Nat → List AV → Prop) (Sq : FuncId → List AV → List (List AV) → List (List AV) → Prop) (Q : AV → List (List AV) → Prop) : awpF Try.prog (mkS Try.prog S Fr Sq ⟨[], [], [], [], []⟩ 0) 0 ⟨[0, 1, 2, 3, 4, 5, 6, 7, 27, 31, 42], [⟨6, [(7, .int .i64 0)], [], [], [], []⟩], [], []⟩ Try.f5 [f.av] [] Q = R5 f S Fr Sq Q := by kernel_rfl
theorem s5 (f : TFeFeeder) (v : AV) (O : List (List AV)) (h : R5 f (SpecOf Try.prog) (FreshOf Try.prog) (SeqOf Try.prog) (fun r O' => r = v ∧ O' = O)) : SpecOf Try.prog 5 [f.av] [] v O :=
  spec_by (boxes := []) mixed (by exact trivial) Try.func5 Try.call5 rfl rfl rfl (Nat.le_of_ble_eq_true rfl) (r5 f (SpecOf Try.prog) (FreshOf Try.prog) (SeqOf Try.prog) _) h
theorem c5 (f : TFeFeeder) (hn : NOK f) : Sp 5 [f.av] [] (.bool true) [] := s5 f _ _ (by
  unfold R5
  have hl := judge_len f
  refine ⟨_, _, c22 f hn, _, _, c23 f hn, fun h => ?_, fun _ => ⟨fun h => ?_, fun _ => ?_⟩⟩
  · simp at h
  · simp at h
  · generalize (judgeR f).1 = l at hl
    simp only [List.length_map]
    refine ⟨fun m vs => ∃ k : Nat, k ≤ l.length ∧ m = l.length - k ∧ vs = [.int .i64 k], ⟨_, 0, by omega, rfl, rfl⟩, ?_⟩
    rintro m n ⟨k, hk, rfl, hv⟩
    cases hv
    refine ⟨fun g => ?_, fun _ => ⟨_, c17, rfl, by trivial⟩⟩
    have g : k < l.length := by simpa using g
    obtain ⟨x, _, hx⟩ := map_getN (f := TFeFault.av) g
    refine ⟨_, _, _, ⟨by omega, by trivial, hx⟩, _, _, _, ⟨by omega, by trivial, hx⟩, fun q => ?_, fun q => ?_⟩
    · simp at q
    · repeat first | refine And.intro rfl ?_ | refine And.intro trivial ?_
      exact ⟨_, (by omega : l.length - (k + 1) < l.length - k), k + 1, by omega, rfl, by rw [wrapN (by omega)]⟩)
set_option maxRecDepth 100000 in
theorem lifted (os : Os) (started : os.Started) (H : Type) (enc : TypeId × Value → H) :
    ReturnsInHanded {} Try.checked os 5 .any (Rows.feedJudgesSpec.pre6 enc Try.prog Try.f5 Rows.feedJudgesRow.domain false) (Rows.feedJudgesSpec.post enc Try.prog Try.f5 false true false false) := by
  refine returnsInHanded_of_change (C := Try.checked) own started (by kernel_rfl) Try.func5
    (ChangeSpec.witness6 (enc := enc) (C := Try.checked) false ⟨#[], #[.agg #[.slice none 0 0, .slice none 0 0, .slice none 0 0, .int .i64 0, .int .i64 0, .int .i64 0, .int .i64 0, .int .i64 0, .int .i64 0]], []⟩ 8 (by kernel_rfl) (by kernel_rfl) (by kernel_rfl) (by kernel_rfl)) ?_
  intro W base args ds gs before hval0 hW hcnd _
  have hval : ∀ (j : Nat) t v, Try.f5.params[j]? = some t → args[j]? = some v → Value.okWide Try.prog W .any base t v := hval0
  have hW' := hW
  obtain ⟨p, q, hA0, hV, rfl, hfz, hnd⟩ := hW
  have hA : DataW.TrodAll enc Try.prog W 0 (fun _ => true) true Try.f5.params.toList args.toList ds p := hA0
  rw [psL] at hA
  have hval : ∀ (j : Nat) t v, ([28] : List TypeId)[j]? = some t → args.toList[j]? = some v → Value.okWide Try.prog W .any base t v := fun j t v h1 h2 => hval j t v (by rw [← Array.getElem?_toList, psL]; exact h1) (by rw [← Array.getElem?_toList]; exact h2)
  have r := hA
  obtain ⟨v0, vs0, d0, ds0, p0, q0, hargs, rfl, rfl, h0, r⟩ := trodAll_cons r
  obtain ⟨rfl, rfl, rfl⟩ := trodAll_nil r
  obtain rfl : args = #[v0] := by cases args; simp_all
  obtain ⟨rfl, rfl⟩ := trodVars_none hV
  have lt0 : ∀ x ∈ p0, x.block < W.heap.size := by obtain ⟨m, hm⟩ := h0; exact DataW.trod_lt m _ _ _ hm
  obtain ⟨_, a0, c0, e0⟩ := arg_open (D := 8) (by kernel_rfl) h0 (hval 0 28 v0 rfl rfl)
  rw [show isAggT Try.prog 28 = true by kernel_rfl] at e0
  obtain ⟨f, rfl, hn⟩ := op28 c0
  have hr : Rvs (ofHeap W) none [f.av] #[v0] := ⟨rfl, fun j => by
    match j with
    | 0 => exact e0
    | j + 1 => exact .undef ..⟩
  refine (law_calls (c5 f hn) hr).mono fun e W' ⟨he, bel⟩ => ?_
  subst he
  exact ⟨_, rfl, _, _, _, [], _, [], hW', trodAll_mk1 (shut_bool un4 _), (trodAll_cons_mk (Below.trod laidOut (by kernel_rfl) (of_decide_eq_true (by kernel_rfl)) h0 bel lt0) trodAll_mk0), rfl, bel.frame _, fun h => by cases h⟩
theorem over : Rows.feedJudgesRow.holds Try.pinned (OpenSpec.ofChange Rows.feedJudgesSpec) :=
  OpenClaim.holds_of_wide 5 Try.f5 rfl rfl rfl rfl rfl rfl rfl ⟨rfl, rfl, rfl, rfl, rfl⟩ rfl rfl rfl rfl rfl (by kernel_rfl) Try.func5 (by kernel_rfl)
    (of_decide_eq_true (by kernel_rfl)) (by unfold Func.isWrapper; first | (rw [if_pos (by decide +kernel)]; kernel_rfl) | (rw [if_neg (by decide +kernel)]; exact ⟨rfl, rfl⟩))
    (fun os started H enc _ => lifted os started H enc)
theorem proved : Rows.FeedJudgesSaid := over
#print axioms proved
end Go.Proofs.Ytbdbnpnichkcjaa.feedJudgesDone

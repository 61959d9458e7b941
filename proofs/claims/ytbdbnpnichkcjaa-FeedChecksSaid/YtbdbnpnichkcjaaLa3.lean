/- FeedChecks: Check returns what the document says, for any feeder. -/
import Derived.Test.YtbdbnpnichkcjaaRb
import Derived.Test.YtbdbnpnichkcjaaAw
import Derived.Test.YtbdbnpnichkcjaaO
namespace Go.Proofs.Ytbdbnpnichkcjaa.feedChecksDone
open Go.ChangeShapes Go.WideShapes Go.ChangeAt Go.RowKit Go.Proofs.Ytbdbnpnichkcjaa
theorem own : ownKnob Try.prog.godebug = none := by kernel_rfl
theorem laidOut : laidOutB Try.prog = true := by kernel_rfl
theorem un4 : Try.prog.underlying 4 = some .bool := by kernel_rfl
theorem psL : Try.f3.params.toList = [28] := by kernel_rfl
def R3 (f : TFeFeeder) (S : SpecF) (Fr : FuncId → List AV → Nat → List AV → Prop) (Sq : FuncId → List AV → List (List AV) → List (List AV) → Prop) (Q : AV → List (List AV) → Prop) : Prop :=
  ∃ n0 n1 n2, S (15 : Nat) [f.av] [] (AV.tup [AV.int IntKind.i64 n0, AV.int IntKind.i64 n1, AV.int IntKind.i64 n2]) [] ∧ ∃ n4 n5 n6, S (16 : Nat) [f.av] [] (AV.tup [AV.int IntKind.i64 n4, AV.int IntKind.i64 n5, AV.int IntKind.i64 n6]) [] ∧ ((n0 == n4) = true → ((n1 == n5) = true → ((n2 == n6) = true → ∃ b14, S (17 : Nat) [] [] (AV.bool b14) [] ∧ Q (AV.bool b14) []) ∧ ((n2 == n6) = false → Q (AV.bool false) [])) ∧ ((n1 == n5) = false → Q (AV.bool false) [])) ∧ ((n0 == n4) = false → Q (AV.bool false) [])
theorem r3 (f : TFeFeeder) (S : SpecF) (Fr : FuncId → List AV → Nat → List AV → Prop) (Sq : FuncId → List AV → List (List AV) → List (List AV) → Prop) (Q : AV → List (List AV) → Prop) : awpF Try.prog (mkS Try.prog S Fr Sq ⟨[], [], [], [], []⟩ 0) 0 ⟨[0, 1, 2, 3, 4, 5, 6, 7, 8], [], [], []⟩ Try.f3 [f.av] [] Q = R3 f S Fr Sq Q := by kernel_rfl
theorem s3 (f : TFeFeeder) (v : AV) (O : List (List AV)) (h : R3 f (SpecOf Try.prog) (FreshOf Try.prog) (SeqOf Try.prog) (fun r O' => r = v ∧ O' = O)) : SpecOf Try.prog 3 [f.av] [] v O :=
  spec_by (boxes := []) mixed (by exact trivial) Try.func3 Try.call3 rfl rfl rfl (Nat.le_of_ble_eq_true rfl) (r3 f (SpecOf Try.prog) (FreshOf Try.prog) (SeqOf Try.prog) _) h
theorem c3 (f : TFeFeeder) (hn : NOK f) : Sp 3 [f.av] [] (.bool true) [] := s3 f _ _ (by
  refine ⟨_, _, _, c15 f hn, _, _, _, c16 f hn, fun _ => ⟨fun _ => ⟨fun _ => ⟨_, c17, rfl, rfl⟩, fun h => ?_⟩, fun h => ?_⟩, fun h => ?_⟩ <;> simp at h)
set_option maxRecDepth 100000 in
theorem lifted (os : Os) (started : os.Started) (H : Type) (enc : TypeId × Value → H) :
    ReturnsInHanded {} Try.checked os 3 .any (Rows.feedChecksSpec.pre6 enc Try.prog Try.f3 Rows.feedChecksRow.domain false) (Rows.feedChecksSpec.post enc Try.prog Try.f3 false true false false) := by
  refine returnsInHanded_of_change (C := Try.checked) own started (by kernel_rfl) Try.func3
    (ChangeSpec.witness6 (enc := enc) (C := Try.checked) false ⟨#[], #[.agg #[.slice none 0 0, .slice none 0 0, .slice none 0 0, .int .i64 0, .int .i64 0, .int .i64 0, .int .i64 0, .int .i64 0, .int .i64 0]], []⟩ 8 (by kernel_rfl) (by kernel_rfl) (by kernel_rfl) (by kernel_rfl)) ?_
  intro W base args ds gs before hval0 hW hcnd _
  have hval : ∀ (j : Nat) t v, Try.f3.params[j]? = some t → args[j]? = some v → Value.okWide Try.prog W .any base t v := hval0
  have hW' := hW
  obtain ⟨p, q, hA0, hV, rfl, hfz, hnd⟩ := hW
  have hA : DataW.TrodAll enc Try.prog W 0 (fun _ => true) true Try.f3.params.toList args.toList ds p := hA0
  rw [psL] at hA
  have hval : ∀ (j : Nat) t v, ([28] : List TypeId)[j]? = some t → args.toList[j]? = some v → Value.okWide Try.prog W .any base t v := fun j t v h1 h2 => hval j t v (by rw [← Array.getElem?_toList, psL]; exact h1) (by rw [← Array.getElem?_toList]; exact h2)
  obtain ⟨v0, vs0, d0, ds0, p0, q0, hargs, rfl, rfl, h0, r0⟩ := trodAll_cons hA
  obtain ⟨rfl, rfl, rfl⟩ := trodAll_nil r0
  obtain rfl : args = #[v0] := by cases args; simp_all
  obtain ⟨rfl, rfl⟩ := trodVars_none hV
  have lt0 : ∀ x ∈ p0, x.block < W.heap.size := by obtain ⟨m, hm⟩ := h0; exact DataW.trod_lt m _ _ _ hm
  obtain ⟨_, a0, c0, e0⟩ := arg_open (D := 8) (by kernel_rfl) h0 (hval 0 28 v0 rfl rfl)
  rw [show isAggT Try.prog 28 = true by kernel_rfl] at e0
  obtain ⟨f, rfl, hn⟩ := op28 c0
  have hr : Rvs (ofHeap W) none [f.av] #[v0] := ⟨rfl, fun j => by
    match j with
    | 0 => exact e0
    | j + 1 => exact .undef ..⟩
  refine (law_calls (c3 f hn) hr).mono fun e W' ⟨he, bel⟩ => ?_
  subst he
  exact ⟨_, rfl, _, _, _, [], _, [], hW', trodAll_mk1 (shut_bool un4 _), (trodAll_cons_mk (Below.trod laidOut (by kernel_rfl) (of_decide_eq_true (by kernel_rfl)) h0 bel lt0) trodAll_mk0), rfl, bel.frame _, fun h => by cases h⟩
theorem over : Rows.feedChecksRow.holds Try.pinned (OpenSpec.ofChange Rows.feedChecksSpec) :=
  OpenClaim.holds_of_wide 3 Try.f3 rfl rfl rfl rfl rfl rfl rfl ⟨rfl, rfl, rfl, rfl, rfl⟩ rfl rfl rfl rfl rfl (by kernel_rfl) Try.func3 (by kernel_rfl)
    (of_decide_eq_true (by kernel_rfl)) (by unfold Func.isWrapper; first | (rw [if_pos (by decide +kernel)]; kernel_rfl) | (rw [if_neg (by decide +kernel)]; exact ⟨rfl, rfl⟩))
    (fun os started H enc _ => lifted os started H enc)
theorem proved : Rows.FeedChecksSaid := over
#print axioms proved
end Go.Proofs.Ytbdbnpnichkcjaa.feedChecksDone

/- FeedMelts: Melt, Own and First return what the document says, for any feeder, fuse, node and current. -/
import Derived.Test.YtbdbnpnichkcjaaRi
import Derived.Test.YtbdbnpnichkcjaaAw
import Derived.Test.YtbdbnpnichkcjaaO
namespace Go.Proofs.Ytbdbnpnichkcjaa.feedMeltsDone
open Go.ChangeShapes Go.WideShapes Go.ChangeAt Go.RowKit Go.Proofs.Ytbdbnpnichkcjaa
theorem own : ownKnob Try.prog.godebug = none := by kernel_rfl
theorem laidOut : laidOutB Try.prog = true := by kernel_rfl
theorem un4 : Try.prog.underlying 4 = some .bool := by kernel_rfl
theorem psL : Try.f9.params.toList = [28, 34, 3] := by kernel_rfl
theorem op34 {d : Nat} {cs : List AV} (h : CellsT Try.prog d 34 cs) : ∃ x : Int × Int, cs = [.int .i64 x.1, .int .i64 x.2] := by
  obtain ⟨d1, ps, rfl, hl, hp⟩ := cells_array (n := 2) (e := 3) (by kernel_rfl) h
  match ps, hl, hp with
  | [p0, p1], _, hp =>
    obtain ⟨x0, rfl, _⟩ := cells_int (k := .i64) (by kernel_rfl) (hp p0 (by simp))
    obtain ⟨x1, rfl, _⟩ := cells_int (k := .i64) (by kernel_rfl) (hp p1 (by simp))
    exact ⟨(x0, x1), rfl⟩
def R9 (f : TFeFeeder) (x0 : Int) (x1 : Int) (current : Int) (S : SpecF) (Fr : FuncId → List AV → Nat → List AV → Prop) (Sq : FuncId → List AV → List (List AV) → List (List AV) → Prop) (Q : AV → List (List AV) → Prop) : Prop :=
  ∃ n0 n1 b2 n3, S (27 : Nat) [f.av, AV.int IntKind.i64 x0, AV.int IntKind.i64 current] [] (AV.tup [AV.agg [AV.int IntKind.i64 n0, AV.int IntKind.i64 n1], AV.bool b2, AV.int IntKind.i64 n3]) [] ∧ ∃ n5 n6 b7 n8, S (28 : Nat) [f.av, AV.int IntKind.i64 x0, AV.int IntKind.i64 current] [] (AV.tup [AV.agg [AV.int IntKind.i64 n5, AV.int IntKind.i64 n6], AV.bool b7, AV.int IntKind.i64 n8]) [] ∧ ((!(n0 == n5 && (n1 == n6 && true))) = true → Q (AV.bool false) []) ∧ ((!(n0 == n5 && (n1 == n6 && true))) = false → ((!b2 == b7) = true → Q (AV.bool false) []) ∧ ((!b2 == b7) = false → ((n3 != n8) = true → Q (AV.bool false) []) ∧ ((n3 != n8) = false → ∃ n16 n17, S (29 : Nat) [f.av, AV.int IntKind.i64 x1] [] (AV.tup [AV.int IntKind.i64 n16, AV.int IntKind.i64 n17]) [] ∧ ∃ n19 n20, S (30 : Nat) [f.av, AV.int IntKind.i64 x1] [] (AV.tup [AV.int IntKind.i64 n19, AV.int IntKind.i64 n20]) [] ∧ ((n16 != n19) = true → Q (AV.bool false) []) ∧ ((n16 != n19) = false → ((n17 != n20) = true → Q (AV.bool false) []) ∧ ((n17 != n20) = false → ∃ n26 n27, S (31 : Nat) [f.av, AV.int IntKind.i64 x1, AV.int IntKind.i64 current] [] (AV.tup [AV.int IntKind.i64 n26, AV.int IntKind.i64 n27]) [] ∧ ∃ n29 n30, S (32 : Nat) [f.av, AV.int IntKind.i64 x1, AV.int IntKind.i64 current] [] (AV.tup [AV.int IntKind.i64 n29, AV.int IntKind.i64 n30]) [] ∧ ((n26 == n29) = true → ((n27 == n30) = true → ∃ b36, S (17 : Nat) [] [] (AV.bool b36) [] ∧ Q (AV.bool b36) []) ∧ ((n27 == n30) = false → Q (AV.bool false) [])) ∧ ((n26 == n29) = false → Q (AV.bool false) []))))))
theorem r9 (f : TFeFeeder) (x0 : Int) (x1 : Int) (current : Int) (S : SpecF) (Fr : FuncId → List AV → Nat → List AV → Prop) (Sq : FuncId → List AV → List (List AV) → List (List AV) → Prop) (Q : AV → List (List AV) → Prop) : awpF Try.prog (mkS Try.prog S Fr Sq ⟨[], [], [], [], []⟩ 0) 0 ⟨[0, 1, 2, 3, 4, 6, 7, 8, 9, 10, 11, 12, 13, 14, 45, 67], [], [], []⟩ Try.f9 [f.av, .agg [.int .i64 x0, .int .i64 x1], .int .i64 current] [] Q = R9 f x0 x1 current S Fr Sq Q := by kernel_rfl
theorem s9 (f : TFeFeeder) (x0 : Int) (x1 : Int) (current : Int) (v : AV) (O : List (List AV)) (h : R9 f x0 x1 current (SpecOf Try.prog) (FreshOf Try.prog) (SeqOf Try.prog) (fun r O' => r = v ∧ O' = O)) : SpecOf Try.prog 9 [f.av, .agg [.int .i64 x0, .int .i64 x1], .int .i64 current] [] v O :=
  spec_by (boxes := []) mixed (by exact trivial) Try.func9 Try.call9 rfl rfl rfl (Nat.le_of_ble_eq_true rfl) (r9 f x0 x1 current (SpecOf Try.prog) (FreshOf Try.prog) (SeqOf Try.prog) _) h
theorem c9 (f : TFeFeeder) (hn : NOK f) (x0 x1 c : Int) : Sp 9 [f.av, .agg [.int .i64 x0, .int .i64 x1], .int .i64 c] [] (.bool true) [] := s9 f x0 x1 c _ _ (by
  refine ⟨_, _, _, _, c27 f hn x0 c, _, _, _, _, c28 f hn x0 c, fun h => ?_, fun _ => ⟨fun h => ?_, fun _ => ⟨fun h => ?_, fun _ => ⟨_, _, c29 f hn x1, _, _, c30 f hn x1, fun h => ?_, fun _ => ⟨fun h => ?_, fun _ => ⟨_, _, c31 f hn x1 c, _, _, c32 f hn x1 c, fun _ => ⟨fun _ => ⟨_, c17, rfl, rfl⟩, fun h => ?_⟩, fun h => ?_⟩⟩⟩⟩⟩⟩ <;> simp at h)
set_option maxRecDepth 100000 in
theorem lifted (os : Os) (started : os.Started) (H : Type) (enc : TypeId × Value → H) :
    ReturnsInHanded {} Try.checked os 9 .any (Rows.feedMeltsSpec.pre6 enc Try.prog Try.f9 Rows.feedMeltsRow.domain false) (Rows.feedMeltsSpec.post enc Try.prog Try.f9 false true false false) := by
  refine returnsInHanded_of_change (C := Try.checked) own started (by kernel_rfl) Try.func9
    (ChangeSpec.witness6 (enc := enc) (C := Try.checked) false ⟨#[], #[.agg #[.slice none 0 0, .slice none 0 0, .slice none 0 0, .int .i64 0, .int .i64 0, .int .i64 0, .int .i64 0, .int .i64 0, .int .i64 0], .agg #[.int .i64 0, .int .i64 0], .int .i64 0], []⟩ 8 (by kernel_rfl) (by kernel_rfl) (by kernel_rfl) (by kernel_rfl)) ?_
  intro W base args ds gs before hval0 hW hcnd _
  have hval : ∀ (j : Nat) t v, Try.f9.params[j]? = some t → args[j]? = some v → Value.okWide Try.prog W .any base t v := hval0
  have hW' := hW
  obtain ⟨p, q, hA0, hV, rfl, hfz, hnd⟩ := hW
  have hA : DataW.TrodAll enc Try.prog W 0 (fun _ => true) true Try.f9.params.toList args.toList ds p := hA0
  rw [psL] at hA
  have hval : ∀ (j : Nat) t v, ([28, 34, 3] : List TypeId)[j]? = some t → args.toList[j]? = some v → Value.okWide Try.prog W .any base t v := fun j t v h1 h2 => hval j t v (by rw [← Array.getElem?_toList, psL]; exact h1) (by rw [← Array.getElem?_toList]; exact h2)
  have r := hA
  obtain ⟨v0, vs0, d0, ds0, p0, q0, hargs, rfl, rfl, h0, r⟩ := trodAll_cons r
  obtain ⟨v1, vs1, d1, ds1, p1, q1, rfl, rfl, rfl, h1, r⟩ := trodAll_cons r
  obtain ⟨v2, vs2, d2, ds2, p2, q2, rfl, rfl, rfl, h2, r⟩ := trodAll_cons r
  obtain ⟨rfl, rfl, rfl⟩ := trodAll_nil r
  obtain rfl : args = #[v0, v1, v2] := by cases args; simp_all
  obtain ⟨rfl, rfl⟩ := trodVars_none hV
  have lt0 : ∀ x ∈ p0, x.block < W.heap.size := by obtain ⟨m, hm⟩ := h0; exact DataW.trod_lt m _ _ _ hm
  obtain ⟨_, a0, c0, e0⟩ := arg_open (D := 8) (by kernel_rfl) h0 (hval 0 28 v0 rfl rfl)
  rw [show isAggT Try.prog 28 = true by kernel_rfl] at e0
  obtain ⟨f, rfl, hn⟩ := op28 c0
  have lt1 : ∀ x ∈ p1, x.block < W.heap.size := by obtain ⟨m, hm⟩ := h1; exact DataW.trod_lt m _ _ _ hm
  obtain ⟨_, a1, c1, e1⟩ := arg_open (D := 8) (by kernel_rfl) h1 (hval 1 34 v1 rfl rfl)
  rw [show isAggT Try.prog 34 = true by kernel_rfl] at e1
  obtain ⟨x1, rfl⟩ := op34 c1
  have lt2 : ∀ x ∈ p2, x.block < W.heap.size := by obtain ⟨m, hm⟩ := h2; exact DataW.trod_lt m _ _ _ hm
  obtain ⟨_, a2, c2, e2⟩ := arg_open (D := 8) (by kernel_rfl) h2 (hval 2 3 v2 rfl rfl)
  rw [show isAggT Try.prog 3 = false by kernel_rfl] at e2
  obtain ⟨n2, rfl, _⟩ := cells_int (k := .i64) (by kernel_rfl) c2
  have hr : Rvs (ofHeap W) none [f.av, .agg [.int .i64 x1.1, .int .i64 x1.2], .int .i64 n2] #[v0, v1, v2] := ⟨rfl, fun j => by
    match j with
    | 0 => exact e0
    | 1 => exact e1
    | 2 => exact e2
    | j + 3 => exact .undef ..⟩
  refine (law_calls (c9 f hn x1.1 x1.2 n2) hr).mono fun e W' ⟨he, bel⟩ => ?_
  subst he
  exact ⟨_, rfl, _, _, _, [], _, [], hW', trodAll_mk1 (shut_bool un4 _), (trodAll_cons_mk (Below.trod laidOut (by kernel_rfl) (of_decide_eq_true (by kernel_rfl)) h0 bel lt0) (trodAll_cons_mk (Below.trod laidOut (by kernel_rfl) (of_decide_eq_true (by kernel_rfl)) h1 bel lt1) (trodAll_cons_mk (Below.trod laidOut (by kernel_rfl) (of_decide_eq_true (by kernel_rfl)) h2 bel lt2) trodAll_mk0))), rfl, bel.frame _, fun h => by cases h⟩
theorem over : Rows.feedMeltsRow.holds Try.pinned (OpenSpec.ofChange Rows.feedMeltsSpec) :=
  OpenClaim.holds_of_wide 9 Try.f9 rfl rfl rfl rfl rfl rfl rfl ⟨rfl, rfl, rfl, rfl, rfl⟩ rfl rfl rfl rfl rfl (by kernel_rfl) Try.func9 (by kernel_rfl)
    (of_decide_eq_true (by kernel_rfl)) (by unfold Func.isWrapper; first | (rw [if_pos (by decide +kernel)]; kernel_rfl) | (rw [if_neg (by decide +kernel)]; exact ⟨rfl, rfl⟩))
    (fun os started H enc _ => lifted os started H enc)
theorem proved : Rows.FeedMeltsSaid := over
#print axioms proved
end Go.Proofs.Ytbdbnpnichkcjaa.feedMeltsDone

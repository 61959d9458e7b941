/- FeedDarks: Dark returns what the document says, for any feeder and open phases. -/
import Derived.Test.YtbdbnpnichkcjaaMd
import Derived.Test.YtbdbnpnichkcjaaAw
import Derived.Test.YtbdbnpnichkcjaaO
namespace Go.Proofs.Ytbdbnpnichkcjaa.feedDarksDone
open Go.ChangeShapes Go.WideShapes Go.ChangeAt Go.RowKit Go.Proofs.Ytbdbnpnichkcjaa
theorem own : ownKnob Try.prog.godebug = none := by kernel_rfl
theorem laidOut : laidOutB Try.prog = true := by kernel_rfl
theorem un4 : Try.prog.underlying 4 = some .bool := by kernel_rfl
theorem psL : Try.f10.params.toList = [28, 67] := by kernel_rfl
def R10 (f : TFeFeeder) (open' : List TFeOpen) (S : SpecF) (_Fr : FuncId → List AV → Nat → List AV → Prop) (_Sq : FuncId → List AV → List (List AV) → List (List AV) → Prop) (Q : AV → List (List AV) → Prop) : Prop :=
  ∃ es0 n1, S (33 : Nat) [f.av, AV.slc (3 : Nat) (List.map TFeOpen.av open')] [] (AV.tup [AV.slc (3 : Nat) es0, AV.int .i64 n1]) [] ∧ ∃ es3 n4, S (34 : Nat) [f.av, AV.slc (3 : Nat) (List.map TFeOpen.av open')] [] (AV.tup [AV.slc (3 : Nat) es3, AV.int .i64 n4]) [] ∧ ((n1 == n4) = true → ∃ b8, S (35 : Nat) [AV.slc (3 : Nat) es0, AV.slc (3 : Nat) es3] [] (AV.bool b8) [] ∧ (b8 = true → ∃ b12, S (17 : Nat) [] [] (AV.bool b12) [] ∧ Q (AV.bool b12) []) ∧ (b8 = false → Q (AV.bool false) [])) ∧ ((n1 == n4) = false → Q (AV.bool false) [])
theorem r10 (f : TFeFeeder) (open' : List TFeOpen) (S : SpecF) (Fr : FuncId → List AV → Nat → List AV → Prop) (Sq : FuncId → List AV → List (List AV) → List (List AV) → Prop) (Q : AV → List (List AV) → Prop) : awpF Try.prog (mkS Try.prog S Fr Sq ⟨[], [], [], [], []⟩ 0) 0 ⟨[0, 1, 2, 4, 5, 6, 7, 8], [], [], []⟩ Try.f10 [f.av, .slc 3 (List.map TFeOpen.av open')] [] Q = R10 f open' S Fr Sq Q := by kernel_rfl
theorem s10 (f : TFeFeeder) (open' : List TFeOpen) (v : AV) (O : List (List AV)) (h : R10 f open' (SpecOf Try.prog) (FreshOf Try.prog) (SeqOf Try.prog) (fun r O' => r = v ∧ O' = O)) : SpecOf Try.prog 10 [f.av, .slc 3 (List.map TFeOpen.av open')] [] v O :=
  spec_by (boxes := []) mixed (by exact trivial) Try.func10 Try.call10 rfl rfl rfl (Nat.le_of_ble_eq_true rfl) (r10 f open' (SpecOf Try.prog) (FreshOf Try.prog) (SeqOf Try.prog) _) h
theorem c10 (f : TFeFeeder) (hn : NOK f) (l : List TFeOpen) : Sp 10 [f.av, .slc 3 (l.map TFeOpen.av)] [] (.bool true) [] := s10 f l _ _ (by
  have hl := dark_len f l
  refine ⟨_, _, c33 f hn l, _, _, c34 f hn l, fun _ => ⟨_, c35 _ (by omega), fun _ => ⟨_, c17, rfl, rfl⟩, fun h => ?_⟩, fun h => ?_⟩ <;> simp at h)
set_option maxRecDepth 100000 in
theorem lifted (os : Os) (started : os.Started) (H : Type) (enc : TypeId × Value → H) :
    ReturnsInHanded {} Try.checked os 10 .any (Rows.feedDarksSpec.pre6 enc Try.prog Try.f10 Rows.feedDarksRow.domain false) (Rows.feedDarksSpec.post enc Try.prog Try.f10 false true false false) := by
  refine returnsInHanded_of_change (C := Try.checked) own started (by kernel_rfl) Try.func10
    (ChangeSpec.witness6 (enc := enc) (C := Try.checked) false ⟨#[], #[.agg #[.slice none 0 0, .slice none 0 0, .slice none 0 0, .int .i64 0, .int .i64 0, .int .i64 0, .int .i64 0, .int .i64 0, .int .i64 0], .slice none 0 0], []⟩ 8 (by kernel_rfl) (by kernel_rfl) (by kernel_rfl) (by kernel_rfl)) ?_
  intro W base args ds gs before hval0 hW hcnd _
  have hval : ∀ (j : Nat) t v, Try.f10.params[j]? = some t → args[j]? = some v → Value.okWide Try.prog W .any base t v := hval0
  have hW' := hW
  obtain ⟨p, q, hA0, hV, rfl, hfz, hnd⟩ := hW
  have hA : DataW.TrodAll enc Try.prog W 0 (fun _ => true) true Try.f10.params.toList args.toList ds p := hA0
  rw [psL] at hA
  have hval : ∀ (j : Nat) t v, ([28, 67] : List TypeId)[j]? = some t → args.toList[j]? = some v → Value.okWide Try.prog W .any base t v := fun j t v h1 h2 => hval j t v (by rw [← Array.getElem?_toList, psL]; exact h1) (by rw [← Array.getElem?_toList]; exact h2)
  have r := hA
  obtain ⟨v0, vs0, d0, ds0, p0, q0, hargs, rfl, rfl, h0, r⟩ := trodAll_cons r
  obtain ⟨v1, vs1, d1, ds1, p1, q1, rfl, rfl, rfl, h1, r⟩ := trodAll_cons r
  obtain ⟨rfl, rfl, rfl⟩ := trodAll_nil r
  obtain rfl : args = #[v0, v1] := by cases args; simp_all
  obtain ⟨rfl, rfl⟩ := trodVars_none hV
  have lt0 : ∀ x ∈ p0, x.block < W.heap.size := by obtain ⟨m, hm⟩ := h0; exact DataW.trod_lt m _ _ _ hm
  obtain ⟨_, a0, c0, e0⟩ := arg_open (D := 8) (by kernel_rfl) h0 (hval 0 28 v0 rfl rfl)
  rw [show isAggT Try.prog 28 = true by kernel_rfl] at e0
  obtain ⟨f, rfl, hn⟩ := op28 c0
  have lt1 : ∀ x ∈ p1, x.block < W.heap.size := by obtain ⟨m, hm⟩ := h1; exact DataW.trod_lt m _ _ _ hm
  obtain ⟨_, a1, c1, e1⟩ := arg_open (D := 8) (by kernel_rfl) h1 (hval 1 67 v1 rfl rfl)
  rw [show isAggT Try.prog 67 = false by kernel_rfl] at e1
  obtain ⟨l1, rfl⟩ := op67 c1
  have hr : Rvs (ofHeap W) none [f.av, .slc 3 (l1.map TFeOpen.av)] #[v0, v1] := ⟨rfl, fun j => by
    match j with
    | 0 => exact e0
    | 1 => exact e1
    | j + 2 => exact .undef ..⟩
  refine (law_calls (c10 f hn l1) hr).mono fun e W' ⟨he, bel⟩ => ?_
  subst he
  exact ⟨_, rfl, _, _, _, [], _, [], hW', trodAll_mk1 (shut_bool un4 _), (trodAll_cons_mk (Below.trod laidOut (by kernel_rfl) (of_decide_eq_true (by kernel_rfl)) h0 bel lt0) (trodAll_cons_mk (Below.trod laidOut (by kernel_rfl) (of_decide_eq_true (by kernel_rfl)) h1 bel lt1) trodAll_mk0)), rfl, bel.frame _, fun h => by cases h⟩
theorem over : Rows.feedDarksRow.holds Try.pinned (OpenSpec.ofChange Rows.feedDarksSpec) :=
  OpenClaim.holds_of_wide 10 Try.f10 rfl rfl rfl rfl rfl rfl rfl ⟨rfl, rfl, rfl, rfl, rfl⟩ rfl rfl rfl rfl rfl (by kernel_rfl) Try.func10 (by kernel_rfl)
    (of_decide_eq_true (by kernel_rfl)) (by unfold Func.isWrapper; first | (rw [if_pos (by decide +kernel)]; kernel_rfl) | (rw [if_neg (by decide +kernel)]; exact ⟨rfl, rfl⟩))
    (fun os started H enc _ => lifted os started H enc)
theorem proved : Rows.FeedDarksSaid := over
#print axioms proved
end Go.Proofs.Ytbdbnpnichkcjaa.feedDarksDone

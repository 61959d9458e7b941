/- FeedLoses: for any loads and resistances in their bounds the length of the voltage that a phase loses on the cable from the source to a node is at most what Drop returns. -/
import Derived.Test.YtbdbnpnichkcjaaK6
import Derived.Test.YtbdbnpnichkcjaaO
namespace Go.Proofs.Ytbdbnpnichkcjaa.feedLosesDone
open Go.ChangeShapes Go.WideShapes Go.ChangeAt Go.RowKit Go.Proofs.Ytbdbnpnichkcjaa
theorem own : ownKnob Try.prog.godebug = none := by kernel_rfl
theorem laidOut : laidOutB Try.prog = true := by kernel_rfl
theorem un4 : Try.prog.underlying 4 = some .bool := by kernel_rfl
theorem psL : Try.f6.params.toList = [28, 48] := by kernel_rfl
theorem op48 {d : Nat} {cs : List AV} (h : CellsT Try.prog d 48 cs) : ∃ x : TReal, cs = x.cs ∧ RealOK x := by
  obtain ⟨d1, ps, rfl, hl, hp⟩ := cells_struct (tys := [3, 45, 46, 5]) (by kernel_rfl) h
  match ps, hl with
  | [p0, p1, p2, p3], _ =>
    obtain ⟨x0, ex0, _⟩ := cells_int (k := .i64) (by kernel_rfl) (hp 0 _ rfl)
    have ex0 : p0 = _ := ex0
    subst ex0
    obtain ⟨_, qs1, eq1, hl1, hq1⟩ := cells_array (n := 3) (e := 5) (by kernel_rfl) (hp 1 _ rfl)
    have eq1 : p1 = _ := eq1
    match qs1, hl1 with
    | [q1_0, q1_1, q1_2], _ =>
      obtain ⟨x1_0, ex1_0, b0⟩ := cells_int (k := .u8) (by kernel_rfl) (hq1 q1_0 (by simp))
      obtain ⟨x1_1, ex1_1, b1⟩ := cells_int (k := .u8) (by kernel_rfl) (hq1 q1_1 (by simp))
      obtain ⟨x1_2, ex1_2, b2⟩ := cells_int (k := .u8) (by kernel_rfl) (hq1 q1_2 (by simp))
      subst ex1_0 ex1_1 ex1_2 eq1
      obtain ⟨_, qs2, eq2, hl2, hq2⟩ := cells_array (n := 2) (e := 5) (by kernel_rfl) (hp 2 _ rfl)
      have eq2 : p2 = _ := eq2
      match qs2, hl2 with
      | [q2_0, q2_1], _ =>
        obtain ⟨x2_0, ex2_0, b3⟩ := cells_int (k := .u8) (by kernel_rfl) (hq2 q2_0 (by simp))
        obtain ⟨x2_1, ex2_1, b4⟩ := cells_int (k := .u8) (by kernel_rfl) (hq2 q2_1 (by simp))
        subst ex2_0 ex2_1 eq2
        obtain ⟨x3, ex3, b5⟩ := cells_int (k := .u8) (by kernel_rfl) (hp 3 _ rfl)
        have ex3 : p3 = _ := ex3
        subst ex3
        exact ⟨⟨x0, x1_0, x1_1, x1_2, x2_0, x2_1, x3⟩, rfl, u8_of b0, u8_of b1, u8_of b2, u8_of b3, u8_of b4, u8_of b5⟩
set_option maxRecDepth 100000 in
theorem lifted (os : Os) (started : os.Started) (H : Type) (enc : TypeId × Value → H) :
    ReturnsInHanded {} Try.checked os 6 .any (Rows.feedLosesSpec.pre6 enc Try.prog Try.f6 Rows.feedLosesRow.domain false) (Rows.feedLosesSpec.post enc Try.prog Try.f6 false true false false) := by
  refine returnsInHanded_of_change (C := Try.checked) own started (by kernel_rfl) Try.func6
    (ChangeSpec.witness6 (enc := enc) (C := Try.checked) false ⟨#[], #[.agg #[.slice none 0 0, .slice none 0 0, .slice none 0 0, .int .i64 0, .int .i64 0, .int .i64 0, .int .i64 0, .int .i64 0, .int .i64 0], .agg #[.int .i64 0, .int .u8 0, .int .u8 0, .int .u8 0, .int .u8 0, .int .u8 0, .int .u8 0]], []⟩ 8 (by kernel_rfl) (by kernel_rfl) (by kernel_rfl) (by kernel_rfl)) ?_
  intro W base args ds gs before hval0 hW hcnd _
  have hval : ∀ (j : Nat) t v, Try.f6.params[j]? = some t → args[j]? = some v → Value.okWide Try.prog W .any base t v := hval0
  have hW' := hW
  obtain ⟨p, q, hA0, hV, rfl, hfz, hnd⟩ := hW
  have hA : DataW.TrodAll enc Try.prog W 0 (fun _ => true) true Try.f6.params.toList args.toList ds p := hA0
  rw [psL] at hA
  have hval : ∀ (j : Nat) t v, ([28, 48] : List TypeId)[j]? = some t → args.toList[j]? = some v → Value.okWide Try.prog W .any base t v := fun j t v h1 h2 => hval j t v (by rw [← Array.getElem?_toList, psL]; exact h1) (by rw [← Array.getElem?_toList]; exact h2)
  have r := hA
  obtain ⟨v0, vs0, d0, ds0, p0, q0, hargs, rfl, rfl, h0, r⟩ := trodAll_cons r
  obtain ⟨v1, vs1, d1, ds1, p1, q1, rfl, rfl, rfl, h1, r⟩ := trodAll_cons r
  obtain ⟨rfl, rfl, rfl⟩ := trodAll_nil r
  obtain rfl : args = #[v0, v1] := by cases args; simp_all
  obtain ⟨rfl, rfl⟩ := trodVars_none hV
  have lt0 : ∀ x ∈ p0, x.block < W.heap.size := by obtain ⟨m, hm⟩ := h0; exact DataW.trod_lt m _ _ _ hm
  obtain ⟨_, a0, c0, e0⟩ := arg_open (D := 8) (by kernel_rfl) h0 (hval 0 28 v0 rfl rfl)
  rw [show isAggT Try.prog 28 = true by kernel_rfl] at e0
  obtain ⟨f, rfl, hn⟩ := op28 c0
  have lt1 : ∀ x ∈ p1, x.block < W.heap.size := by obtain ⟨m, hm⟩ := h1; exact DataW.trod_lt m _ _ _ hm
  obtain ⟨_, a1, c1, e1⟩ := arg_open (D := 8) (by kernel_rfl) h1 (hval 1 48 v1 rfl rfl)
  rw [show isAggT Try.prog 48 = true by kernel_rfl] at e1
  obtain ⟨x1, rfl, hx1⟩ := op48 c1
  have hr : Rvs (ofHeap W) none [f.av, x1.av] #[v0, v1] := ⟨rfl, fun j => by
    match j with
    | 0 => exact e0
    | 1 => exact e1
    | j + 2 => exact .undef ..⟩
  refine (law_calls (c6 f hn x1 hx1) hr).mono fun e W' ⟨he, bel⟩ => ?_
  subst he
  exact ⟨_, rfl, _, _, _, [], _, [], hW', trodAll_mk1 (shut_bool un4 _), (trodAll_cons_mk (Below.trod laidOut (by kernel_rfl) (of_decide_eq_true (by kernel_rfl)) h0 bel lt0) (trodAll_cons_mk (Below.trod laidOut (by kernel_rfl) (of_decide_eq_true (by kernel_rfl)) h1 bel lt1) trodAll_mk0)), rfl, bel.frame _, fun h => by cases h⟩
theorem over : Rows.feedLosesRow.holds Try.pinned (OpenSpec.ofChange Rows.feedLosesSpec) :=
  OpenClaim.holds_of_wide 6 Try.f6 rfl rfl rfl rfl rfl rfl rfl ⟨rfl, rfl, rfl, rfl, rfl⟩ rfl rfl rfl rfl rfl (by kernel_rfl) Try.func6 (by kernel_rfl)
    (of_decide_eq_true (by kernel_rfl)) (by unfold Func.isWrapper; first | (rw [if_pos (by decide +kernel)]; kernel_rfl) | (rw [if_neg (by decide +kernel)]; exact ⟨rfl, rfl⟩))
    (fun os started H enc _ => lifted os started H enc)
theorem proved : Rows.FeedLosesSaid := over
#print axioms proved
end Go.Proofs.Ytbdbnpnichkcjaa.feedLosesDone

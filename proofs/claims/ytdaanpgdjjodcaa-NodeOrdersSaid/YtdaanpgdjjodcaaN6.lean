/- NodeOrders: messages lead to the same in any order. -/
import Derived.Test.YtdaanpgdjjodcaaZ
import Derived.Test.YtdaanpgdjjodcaaO
namespace Go.Proofs.Ytdaanpgdjjodcaa.nodeOrdersDone
open Go.ChangeShapes Go.WideShapes Go.ChangeAt Go.RowKit Go.Proofs.Ytdaanpgdjjodcaa
theorem own : ownKnob Try.prog.godebug = none := by kernel_rfl
theorem laidOut : laidOutB Try.prog = true := by kernel_rfl
theorem byte_in {n : Int} (h : (Lit.int .u8 n).wf = true) : 0 ≤ n ∧ n ≤ 255 := by
  have h1 : IntKind.u8.min = 0 := by kernel_rfl
  have h2 : IntKind.u8.max = 255 := by kernel_rfl
  simp only [Lit.wf, h1, h2, Bool.and_eq_true, decide_eq_true_eq] at h
  exact h
theorem op61 {d : Nat} {cs : List AV} (h : CellsT Try.prog d 61 cs) : ∃ x : Int × Int, cs = [.int .u8 x.1, .int .u8 x.2] ∧ (0 ≤ x.1 ∧ x.1 ≤ 255) ∧ (0 ≤ x.2 ∧ x.2 ≤ 255) := by
  obtain ⟨d1, ps, rfl, hl, hp⟩ := cells_array (n := 2) (e := 5) (by kernel_rfl) h
  match ps, hl, hp with
  | [p0, p1], _, hp =>
    obtain ⟨x0, rfl, h0⟩ := cells_int (k := .u8) (by kernel_rfl) (hp p0 (by simp))
    obtain ⟨x1, rfl, h1⟩ := cells_int (k := .u8) (by kernel_rfl) (hp p1 (by simp))
    exact ⟨(x0, x1), rfl, byte_in h0, byte_in h1⟩
theorem op58 {d : Nat} {cs : List AV} (h : CellsT Try.prog d 58 cs) : ∃ x : TPost, cs = x.cs ∧ ∀ y ∈ x.Swaps, (0 ≤ y.1 ∧ y.1 ≤ 255) ∧ (0 ≤ y.2 ∧ y.2 ≤ 255) := by
  obtain ⟨d1, ps, rfl, hl, hp⟩ := cells_struct (tys := [55, 56]) (by kernel_rfl) h
  match ps, hl with
  | [p0, p1], _ =>
    obtain ⟨x0, ex0, _⟩ := cells_slice (g := TNdMessage.av) (by kernel_rfl) (fun d p hp => by obtain ⟨x, rfl⟩ := op35 hp; exact ⟨x, by rw [if_pos (show isAggT Try.prog 35 = true by kernel_rfl)]; rfl⟩) (hp 0 _ rfl)
    have ex0 : p0 = _ := ex0
    subst ex0
    obtain ⟨x1, ex1, _, hx1⟩ := cells_sliceW (g := fun x : Int × Int => AV.agg [.int .u8 x.1, .int .u8 x.2]) (w := fun x => (0 ≤ x.1 ∧ x.1 ≤ 255) ∧ (0 ≤ x.2 ∧ x.2 ≤ 255)) (by kernel_rfl) (fun d p hp => by obtain ⟨x, rfl, hx⟩ := op61 hp; exact ⟨x, by rw [if_pos (show isAggT Try.prog 61 = true by kernel_rfl)], hx⟩) (hp 1 _ rfl)
    have ex1 : p1 = _ := ex1
    subst ex1
    exact ⟨⟨x0, x1⟩, rfl, hx1⟩
theorem un4 : Try.prog.underlying 4 = some .bool := by kernel_rfl
theorem psL : Try.f6.params.toList = [25, 33, 58] := by kernel_rfl
set_option maxRecDepth 100000 in
theorem lifted (os : Os) (started : os.Started) (H : Type) (enc : TypeId × Value → H) :
    ReturnsInHanded {} Try.checked os 6 .any (Rows.nodeOrdersSpec.pre6 enc Try.prog Try.f6 Rows.nodeOrdersRow.domain false) (Rows.nodeOrdersSpec.post enc Try.prog Try.f6 false true false false) := by
  refine returnsInHanded_of_change (C := Try.checked) own started (by kernel_rfl) Try.func6
    (ChangeSpec.witness6 (enc := enc) (C := Try.checked) false ⟨#[], #[.agg #[.int .i64 0, .int .i64 0, .int .i64 0, .int .i64 0, .int .i64 0, .int .i64 0, .int .i64 0, .int .i64 0], .agg #[.int .i64 0, .int .i64 0, .int .i64 0, .int .i64 0, .int .i64 0, .int .i64 0, .bool false, .int .i64 0, .int .i64 0, .slice none 0 0, .int .i64 0, .int .i64 0, .int .i64 0, .int .i64 0, .int .i64 0, .int .i64 0, .int .i64 0, .bool false, .bool false, .int .i64 0, .int .i64 0], .agg #[.slice none 0 0, .slice none 0 0]], []⟩ 8 (by kernel_rfl) (by kernel_rfl) (by kernel_rfl) (by kernel_rfl)) ?_
  intro W base args ds gs before hval0 hW hcnd _
  have hval : ∀ (j : Nat) t v, Try.f6.params[j]? = some t → args[j]? = some v → Value.okWide Try.prog W .any base t v := hval0
  have hW' := hW
  obtain ⟨p, q, hA0, hV, rfl, hfz, hnd⟩ := hW
  have hA : DataW.TrodAll enc Try.prog W 0 (fun _ => true) true Try.f6.params.toList args.toList ds p := hA0
  rw [psL] at hA
  have hval : ∀ (j : Nat) t v, ([25, 33, 58] : List TypeId)[j]? = some t → args.toList[j]? = some v → Value.okWide Try.prog W .any base t v := fun j t v h1 h2 => hval j t v (by rw [← Array.getElem?_toList, psL]; exact h1) (by rw [← Array.getElem?_toList]; exact h2)
  have r := hA
  obtain ⟨v0, vs0, d0, ds0, p0, q0, hargs, rfl, rfl, h0, r⟩ := trodAll_cons r
  obtain ⟨v1, vs1, d1, ds1, p1, q1, rfl, rfl, rfl, h1, r⟩ := trodAll_cons r
  obtain ⟨v2, vs2, d2, ds2, p2, q2, rfl, rfl, rfl, h2, r⟩ := trodAll_cons r
  obtain ⟨rfl, rfl, rfl⟩ := trodAll_nil r
  obtain rfl : args = #[v0, v1, v2] := by cases args; simp_all
  obtain ⟨rfl, rfl⟩ := trodVars_none hV
  have lt0 : ∀ x ∈ p0, x.block < W.heap.size := by obtain ⟨m, hm⟩ := h0; exact DataW.trod_lt m _ _ _ hm
  obtain ⟨_, b0, c0, e0⟩ := arg_open (D := 8) (by kernel_rfl) h0 (hval 0 25 v0 rfl rfl)
  rw [show isAggT Try.prog 25 = true by kernel_rfl] at e0
  obtain ⟨a0, rfl⟩ := op25 c0
  have lt1 : ∀ x ∈ p1, x.block < W.heap.size := by obtain ⟨m, hm⟩ := h1; exact DataW.trod_lt m _ _ _ hm
  obtain ⟨_, b1, c1, e1⟩ := arg_open (D := 8) (by kernel_rfl) h1 (hval 1 33 v1 rfl rfl)
  rw [show isAggT Try.prog 33 = true by kernel_rfl] at e1
  obtain ⟨a1, rfl⟩ := op33 c1
  have lt2 : ∀ x ∈ p2, x.block < W.heap.size := by obtain ⟨m, hm⟩ := h2; exact DataW.trod_lt m _ _ _ hm
  obtain ⟨_, b2, c2, e2⟩ := arg_open (D := 8) (by kernel_rfl) h2 (hval 2 58 v2 rfl rfl)
  rw [show isAggT Try.prog 58 = true by kernel_rfl] at e2
  obtain ⟨a2, rfl, g2⟩ := op58 c2
  have hr : Rvs (ofHeap W) none [a0.av, a1.av, a2.av] #[v0, v1, v2] := ⟨rfl, fun j => by
    match j with
    | 0 => exact e0
    | 1 => exact e1
    | 2 => exact e2
    | j + 3 => exact .undef ..⟩
  refine (law_calls (c6 a0 a1 a2 g2) hr).mono fun e W' ⟨he, bel⟩ => ?_
  subst he
  exact ⟨_, rfl, _, _, _, [], _, [], hW', trodAll_mk1 (shut_bool un4 _), (trodAll_cons_mk (Below.trod laidOut (by kernel_rfl) (of_decide_eq_true (by kernel_rfl)) h0 bel lt0) (trodAll_cons_mk (Below.trod laidOut (by kernel_rfl) (of_decide_eq_true (by kernel_rfl)) h1 bel lt1) (trodAll_cons_mk (Below.trod laidOut (by kernel_rfl) (of_decide_eq_true (by kernel_rfl)) h2 bel lt2) trodAll_mk0))), rfl, bel.frame _, fun h => by cases h⟩
theorem over : Rows.nodeOrdersRow.holds Try.pinned (OpenSpec.ofChange Rows.nodeOrdersSpec) :=
  OpenClaim.holds_of_wide 6 Try.f6 rfl rfl rfl rfl rfl rfl rfl ⟨rfl, rfl, rfl, rfl, rfl⟩ rfl rfl rfl rfl rfl (by kernel_rfl) Try.func6 (by kernel_rfl)
    (of_decide_eq_true (by kernel_rfl)) (by unfold Func.isWrapper; first | (rw [if_pos (by decide +kernel)]; kernel_rfl) | (rw [if_neg (by decide +kernel)]; exact ⟨rfl, rfl⟩))
    (fun os started H enc _ => lifted os started H enc)
theorem proved : Rows.NodeOrdersSaid := over
#print axioms proved
end Go.Proofs.Ytdaanpgdjjodcaa.nodeOrdersDone

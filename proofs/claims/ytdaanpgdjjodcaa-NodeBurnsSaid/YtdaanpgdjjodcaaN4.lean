/- NodeBurns: for any events: after each of them the level is at least Floor, where it must be. -/
import Derived.Test.YtdaanpgdjjodcaaZ
import Derived.Test.YtdaanpgdjjodcaaO
namespace Go.Proofs.Ytdaanpgdjjodcaa.nodeBurnsDone
open Go.ChangeShapes Go.WideShapes Go.ChangeAt Go.RowKit Go.Proofs.Ytdaanpgdjjodcaa
theorem own : ownKnob Try.prog.godebug = none := by kernel_rfl
theorem laidOut : laidOutB Try.prog = true := by kernel_rfl
theorem op46 {d : Nat} {cs : List AV} (h : CellsT Try.prog d 46 cs) : ∃ x : TNdEvent, cs = x.cs := by
  obtain ⟨d1, ps, rfl, hl, hp⟩ := cells_struct (tys := [3, 35, 3, 3]) (by kernel_rfl) h
  match ps, hl with
  | [p0, p1, p2, p3], _ =>
    obtain ⟨x0, ex0, _⟩ := cells_int (k := .i64) (by kernel_rfl) (hp 0 _ rfl)
    have ex0 : p0 = _ := ex0
    subst ex0
    obtain ⟨x1, ex1⟩ := op35 (hp 1 _ rfl)
    have ex1 : p1 = _ := ex1
    subst ex1
    obtain ⟨x2, ex2, _⟩ := cells_int (k := .i64) (by kernel_rfl) (hp 2 _ rfl)
    have ex2 : p2 = _ := ex2
    subst ex2
    obtain ⟨x3, ex3, _⟩ := cells_int (k := .i64) (by kernel_rfl) (hp 3 _ rfl)
    have ex3 : p3 = _ := ex3
    subst ex3
    exact ⟨⟨x0, x1, x2, x3⟩, rfl⟩
theorem un4 : Try.prog.underlying 4 = some .bool := by kernel_rfl
theorem psL : Try.f4.params.toList = [25, 43] := by kernel_rfl
set_option maxRecDepth 100000 in
theorem lifted (os : Os) (started : os.Started) (H : Type) (enc : TypeId × Value → H) :
    ReturnsInHanded {} Try.checked os 4 .any (Rows.nodeBurnsSpec.pre6 enc Try.prog Try.f4 Rows.nodeBurnsRow.domain false) (Rows.nodeBurnsSpec.post enc Try.prog Try.f4 false true false false) := by
  refine returnsInHanded_of_change (C := Try.checked) own started (by kernel_rfl) Try.func4
    (ChangeSpec.witness6 (enc := enc) (C := Try.checked) false ⟨#[], #[.agg #[.int .i64 0, .int .i64 0, .int .i64 0, .int .i64 0, .int .i64 0, .int .i64 0, .int .i64 0, .int .i64 0], .slice none 0 0], []⟩ 8 (by kernel_rfl) (by kernel_rfl) (by kernel_rfl) (by kernel_rfl)) ?_
  intro W base args ds gs before hval0 hW hcnd _
  have hval : ∀ (j : Nat) t v, Try.f4.params[j]? = some t → args[j]? = some v → Value.okWide Try.prog W .any base t v := hval0
  have hW' := hW
  obtain ⟨p, q, hA0, hV, rfl, hfz, hnd⟩ := hW
  have hA : DataW.TrodAll enc Try.prog W 0 (fun _ => true) true Try.f4.params.toList args.toList ds p := hA0
  rw [psL] at hA
  have hval : ∀ (j : Nat) t v, ([25, 43] : List TypeId)[j]? = some t → args.toList[j]? = some v → Value.okWide Try.prog W .any base t v := fun j t v h1 h2 => hval j t v (by rw [← Array.getElem?_toList, psL]; exact h1) (by rw [← Array.getElem?_toList]; exact h2)
  have r := hA
  obtain ⟨v0, vs0, d0, ds0, p0, q0, hargs, rfl, rfl, h0, r⟩ := trodAll_cons r
  obtain ⟨v1, vs1, d1, ds1, p1, q1, rfl, rfl, rfl, h1, r⟩ := trodAll_cons r
  obtain ⟨rfl, rfl, rfl⟩ := trodAll_nil r
  obtain rfl : args = #[v0, v1] := by cases args; simp_all
  obtain ⟨rfl, rfl⟩ := trodVars_none hV
  have lt0 : ∀ x ∈ p0, x.block < W.heap.size := by obtain ⟨m, hm⟩ := h0; exact DataW.trod_lt m _ _ _ hm
  obtain ⟨_, b0, c0, e0⟩ := arg_open (D := 8) (by kernel_rfl) h0 (hval 0 25 v0 rfl rfl)
  rw [show isAggT Try.prog 25 = true by kernel_rfl] at e0
  obtain ⟨a0, rfl⟩ := op25 c0
  have lt1 : ∀ x ∈ p1, x.block < W.heap.size := by obtain ⟨m, hm⟩ := h1; exact DataW.trod_lt m _ _ _ hm
  obtain ⟨_, b1, c1, e1⟩ := arg_open (D := 8) (by kernel_rfl) h1 (hval 1 43 v1 rfl rfl)
  rw [show isAggT Try.prog 43 = false by kernel_rfl] at e1
  obtain ⟨a1, rfl, _⟩ := cells_slice (g := TNdEvent.av) (by kernel_rfl) (fun d p hp => by obtain ⟨x, rfl⟩ := op46 hp; exact ⟨x, by rw [if_pos (show isAggT Try.prog 46 = true by kernel_rfl)]; rfl⟩) c1
  have hr : Rvs (ofHeap W) none [a0.av, .slc 3 (List.map TNdEvent.av a1)] #[v0, v1] := ⟨rfl, fun j => by
    match j with
    | 0 => exact e0
    | 1 => exact e1
    | j + 2 => exact .undef ..⟩
  refine (law_calls (c4 a0 a1) hr).mono fun e W' ⟨he, bel⟩ => ?_
  subst he
  exact ⟨_, rfl, _, _, _, [], _, [], hW', trodAll_mk1 (shut_bool un4 _), (trodAll_cons_mk (Below.trod laidOut (by kernel_rfl) (of_decide_eq_true (by kernel_rfl)) h0 bel lt0) (trodAll_cons_mk (Below.trod laidOut (by kernel_rfl) (of_decide_eq_true (by kernel_rfl)) h1 bel lt1) trodAll_mk0)), rfl, bel.frame _, fun h => by cases h⟩
theorem over : Rows.nodeBurnsRow.holds Try.pinned (OpenSpec.ofChange Rows.nodeBurnsSpec) :=
  OpenClaim.holds_of_wide 4 Try.f4 rfl rfl rfl rfl rfl rfl rfl ⟨rfl, rfl, rfl, rfl, rfl⟩ rfl rfl rfl rfl rfl (by kernel_rfl) Try.func4 (by kernel_rfl)
    (of_decide_eq_true (by kernel_rfl)) (by unfold Func.isWrapper; first | (rw [if_pos (by decide +kernel)]; kernel_rfl) | (rw [if_neg (by decide +kernel)]; exact ⟨rfl, rfl⟩))
    (fun os started H enc _ => lifted os started H enc)
theorem proved : Rows.NodeBurnsSaid := over
#print axioms proved
end Go.Proofs.Ytdaanpgdjjodcaa.nodeBurnsDone

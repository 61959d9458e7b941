/- FeedMore: more open phases leave no more supply; an order of them, or one that is said twice, makes no difference, for any feeder and open phases. -/
import Derived.Test.YtbdbnpnichkcjaaMf
import Derived.Test.YtbdbnpnichkcjaaO
namespace Go.Proofs.Ytbdbnpnichkcjaa.feedMoreDone
open Go.ChangeShapes Go.WideShapes Go.ChangeAt Go.RowKit Go.Proofs.Ytbdbnpnichkcjaa
theorem own : ownKnob Try.prog.godebug = none := by kernel_rfl
theorem laidOut : laidOutB Try.prog = true := by kernel_rfl
theorem un4 : Try.prog.underlying 4 = some .bool := by kernel_rfl
theorem psL : Try.f11.params.toList = [28, 67, 73] := by kernel_rfl
theorem op67r {d : Nat} {cs : List AV} (h : CellsT Try.prog d 67 cs) : ∃ l : List TFeOpen, cs = [.slc 3 (l.map TFeOpen.av)] ∧ l.length ≤ 2 ^ 43 := by
  obtain ⟨l, h1, _, h3, _⟩ := cells_sliceR (e := 73) (g := TFeOpen.av) (w := fun _ => True) (by kernel_rfl) (fun d p hp => by
    obtain ⟨x, rfl⟩ := op73 hp
    exact ⟨x, by rw [if_pos (show isAggT Try.prog 73 = true by kernel_rfl)]; rfl, trivial⟩) h
  refine ⟨l, h1, ?_⟩
  have e : Try.prog.bytesOf 73 = 16 := by kernel_rfl
  rw [e] at h3
  have := reachBytes_lt
  omega
set_option maxRecDepth 100000 in
theorem lifted (os : Os) (started : os.Started) (H : Type) (enc : TypeId × Value → H) :
    ReturnsInHanded {} Try.checked os 11 .any (Rows.feedMoreSpec.pre6 enc Try.prog Try.f11 Rows.feedMoreRow.domain false) (Rows.feedMoreSpec.post enc Try.prog Try.f11 false true false false) := by
  refine returnsInHanded_of_change_sized (C := Try.checked) own started (by kernel_rfl) Try.func11
    (ChangeSpec.witness6 (enc := enc) (C := Try.checked) false ⟨#[], #[.agg #[.slice none 0 0, .slice none 0 0, .slice none 0 0, .int .i64 0, .int .i64 0, .int .i64 0, .int .i64 0, .int .i64 0, .int .i64 0], .slice none 0 0, .agg #[.int .i64 0, .int .i64 0]], []⟩ 8 (by kernel_rfl) (by kernel_rfl) (by kernel_rfl) (by kernel_rfl)) ?_
  intro W base args ds gs before hval0 hW hcnd hsz _
  have hval : ∀ (j : Nat) t v, Try.f11.params[j]? = some t → args[j]? = some v → Value.okWide Try.prog W .any base t v := hval0
  have hW' := hW
  obtain ⟨p, q, hA0, hV, rfl, hfz, hnd⟩ := hW
  have hA : DataW.TrodAll enc Try.prog W 0 (fun _ => true) true Try.f11.params.toList args.toList ds p := hA0
  rw [psL] at hA
  have hval : ∀ (j : Nat) t v, ([28, 67, 73] : List TypeId)[j]? = some t → args.toList[j]? = some v → Value.okWide Try.prog W .any base t v := fun j t v h1 h2 => hval j t v (by rw [← Array.getElem?_toList, psL]; exact h1) (by rw [← Array.getElem?_toList]; exact h2)
  have r := hA
  obtain ⟨v0, vs0, d0, ds0, p0, q0, hargs, rfl, rfl, h0, r⟩ := trodAll_cons r
  obtain ⟨v1, vs1, d1, ds1, p1, q1, rfl, rfl, rfl, h1, r⟩ := trodAll_cons r
  obtain ⟨v2, vs2, d2, ds2, p2, q2, rfl, rfl, rfl, h2, r⟩ := trodAll_cons r
  obtain ⟨rfl, rfl, rfl⟩ := trodAll_nil r
  obtain rfl : args = #[v0, v1, v2] := by cases args; simp_all
  obtain ⟨rfl, rfl⟩ := trodVars_none hV
  have lt0 : ∀ x ∈ p0, x.block < W.heap.size := by obtain ⟨m, hm⟩ := h0; exact DataW.trod_lt m _ _ _ hm
  obtain ⟨_, a0, c0, e0⟩ := arg_open (D := 8) (by kernel_rfl) h0 (fun n hn => of_decide_eq_true (List.all_eq_true.1 hsz n (DataW.weights_mem_each (j := 0) (t := 28) (by kernel_rfl) rfl n hn))) (hval 0 28 v0 rfl rfl)
  rw [show isAggT Try.prog 28 = true by kernel_rfl] at e0
  obtain ⟨f, rfl, hn⟩ := op28 c0
  have lt1 : ∀ x ∈ p1, x.block < W.heap.size := by obtain ⟨m, hm⟩ := h1; exact DataW.trod_lt m _ _ _ hm
  obtain ⟨_, a1, c1, e1⟩ := arg_open (D := 8) (by kernel_rfl) h1 (fun n hn => of_decide_eq_true (List.all_eq_true.1 hsz n (DataW.weights_mem_each (j := 1) (t := 67) (by kernel_rfl) rfl n hn))) (hval 1 67 v1 rfl rfl)
  rw [show isAggT Try.prog 67 = false by kernel_rfl] at e1
  obtain ⟨l1, rfl, hl1⟩ := op67r c1
  have lt2 : ∀ x ∈ p2, x.block < W.heap.size := by obtain ⟨m, hm⟩ := h2; exact DataW.trod_lt m _ _ _ hm
  obtain ⟨_, a2, c2, e2⟩ := arg_open (D := 8) (by kernel_rfl) h2 (fun n hn => of_decide_eq_true (List.all_eq_true.1 hsz n (DataW.weights_mem_each (j := 2) (t := 73) (by kernel_rfl) rfl n hn))) (hval 2 73 v2 rfl rfl)
  rw [show isAggT Try.prog 73 = true by kernel_rfl] at e2
  obtain ⟨o2, rfl⟩ := op73 c2
  have hr : Rvs (ofHeap W) none [f.av, .slc 3 (l1.map TFeOpen.av), o2.av] #[v0, v1, v2] := ⟨rfl, fun j => by
    match j with
    | 0 => exact e0
    | 1 => exact e1
    | 2 => exact e2
    | j + 3 => exact .undef ..⟩
  refine (law_calls (c11 f hn l1 hl1 o2) hr).mono fun e W' ⟨he, bel⟩ => ?_
  subst he
  exact ⟨_, rfl, _, _, _, [], _, [], hW', trodAll_mk1 (shut_bool un4 _), (trodAll_cons_mk (Below.trod laidOut (by kernel_rfl) (of_decide_eq_true (by kernel_rfl)) h0 bel lt0) (trodAll_cons_mk (Below.trod laidOut (by kernel_rfl) (of_decide_eq_true (by kernel_rfl)) h1 bel lt1) (trodAll_cons_mk (Below.trod laidOut (by kernel_rfl) (of_decide_eq_true (by kernel_rfl)) h2 bel lt2) trodAll_mk0))), rfl, bel.frame _, fun h => by cases h⟩
theorem over : Rows.feedMoreRow.holds Try.pinned (OpenSpec.ofChange Rows.feedMoreSpec) :=
  OpenClaim.holds_of_wide 11 Try.f11 rfl rfl rfl rfl rfl rfl rfl ⟨rfl, rfl, rfl, rfl, rfl⟩ rfl rfl rfl rfl rfl (by kernel_rfl) Try.func11 (by kernel_rfl)
    (of_decide_eq_true (by kernel_rfl)) (by unfold Func.isWrapper; first | (rw [if_pos (by decide +kernel)]; kernel_rfl) | (rw [if_neg (by decide +kernel)]; exact ⟨rfl, rfl⟩))
    (fun os started H enc _ => lifted os started H enc)
theorem proved : Rows.FeedMoreSaid := over
#print axioms proved
end Go.Proofs.Ytbdbnpnichkcjaa.feedMoreDone

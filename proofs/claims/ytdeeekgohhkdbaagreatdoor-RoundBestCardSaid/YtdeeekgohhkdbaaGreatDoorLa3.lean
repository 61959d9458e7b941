/- RoundBest: what Best returns has no fault; no plan without faults has a greater value, or the same one and a lesser cost, for any task (with at most 6 jobs and lorries together) and any plan. The variable of the package that it reads is as the program lays it. -/
import Derived.Test.YtdeeekgohhkdbaaGreatDoorQd
import Derived.Test.YtdeeekgohhkdbaaGreatDoorOd
import Derived.Test.YtdeeekgohhkdbaaGreatDoorCards
import Derived.Test.YtdeeekgohhkdbaaGreatDoorTie
namespace Go.Proofs.YtdeeekgohhkdbaaGreatDoor.roundBestDone
open Go.ChangeShapes Go.WideShapes Go.ChangeAt Go.RowKit Go.Proofs.YtdeeekgohhkdbaaGreatDoor
theorem own : ownKnob Tryz.prog.godebug = none := by kernel_rfl
theorem laidOut : laidOutB Tryz.prog = true := by kernel_rfl
theorem un4 : Tryz.prog.underlying 4 = some .bool := by kernel_rfl
theorem psL : Tryz.f3.params.toList = [31, 32] := by kernel_rfl
def R3 (t : TRoTask) (plan : List (List Int)) (S : SpecF) (_Fr : FreshF) (_Sq : SeqF) (Q : PostF) : Prop :=
 ∃ b0, S 16 [t.av] [] (.bool b0) [] ∧ (b0 = true → ∃ b4, S 17 [] [] (.bool b4) [] ∧ Q (.bool b4) []) ∧ (b0 = false → ∃ es4 n5, S 18 [t.av] [] (.tup [AV.slc 3 es4, iN n5]) [] ∧ ((n5 != 0) = true → ∃ b9, S 17 [] [] (.bool b9) [] ∧ Q (.bool b9) []) ∧ ((n5 != 0) = false → ∃ n9 n10 n11, S 19 [t.av, .slc 3 es4] [] (.tup [iN n9, iN n10, iN n11]) [] ∧ ((n11 != 0) = true → Q (.bool false) []) ∧ ((n11 != 0) = false → ∃ n15 n16 n17, S 19 [t.av, .slc 3 (List.map (fun x => AV.slc 3 (List.map (AV.int IntKind.i64) x)) plan)] [] (.tup [iN n15, iN n16, iN n17]) [] ∧ ((n17 != 0) = true → ∃ b21, S 17 [] [] (.bool b21) [] ∧ Q (.bool b21) []) ∧ ((n17 != 0) = false → (decide (n15 < n9) = true → ∃ b23, S 17 [] [] (.bool b23) [] ∧ Q (.bool b23) []) ∧ (decide (n15 < n9) = false → ((n15 == n9) = true → (decide (n16 ≥ n10) = true → ∃ b27, S 17 [] [] (.bool b27) [] ∧ Q (.bool b27) []) ∧ (decide (n16 ≥ n10) = false → Q (.bool false) [])) ∧ ((n15 == n9) = false → Q (.bool false) []))))))
theorem s3 (t : TRoTask) (plan : List (List Int)) (v : AV) (O : List (List AV)) (h : R3 t plan Sp Fo So (fun r O' => r = v ∧ O' = O)) : Sp 3 [t.av, .slc 3 (List.map (fun x => .slc 3 (List.map (AV.int .i64) x)) plan)] [] v O :=
 spec_by (w := ⟨[], [], [], [], []⟩) (k := 0) (keep := ⟨[0, 1, 2, 4, 5, 6, 7, 8, 9, 10, 12, 20, 30], [], [], []⟩) (boxes := []) mixed (by exact trivial) Tryz.func3 Tryz.call3 rfl rfl rfl (Nat.le_of_ble_eq_true rfl) (by kernel_rfl) h
theorem c3 (t : TRoTask) (ht : t.Ok) (plan : List (List Int)) : Sp 3 [t.av, .slc 3 (planA plan)] [] (.bool true) [] := s3 t plan _ _ (by
 have hti := taskIn_of ht
 unfold R3
 have awake : ∃ b : Bool, Sp 17 [] [] (.bool b) [] ∧ (AV.bool b = .bool true ∧ ([] : List (List AV)) = []) := ⟨_, awake_ok, rfl, rfl⟩
 refine ⟨_, c16 t, fun _ => awake, fun _ => ⟨_, _, c18 t hti, fun _ => awake, fun he => ?_⟩⟩
 have he : (taskE t).2.2 = 0 := by simpa using he
 obtain ⟨_, _, b3, b4⟩ := best_fine he
 refine ⟨_, _, _, c19 t hti (bestP t), fun h => absurd h (by simp [b3]), fun _ => ⟨_, _, _, c19 t hti plan, fun _ => awake, fun h => ?_⟩⟩
 have h : (worthE t plan).2.2 = 0 := by simpa using h
 have g := b4 plan h
 unfold geT at g
 refine ⟨fun _ => awake, fun h1 => ⟨fun h2 => ⟨fun _ => awake, fun h3 => ?_⟩, fun h2 => ?_⟩⟩
 ·have h1 := of_decide_eq_false h1
  have h3 := of_decide_eq_false h3
  have h2 : (worthE t plan).1 = (worthE t (bestP t)).1 := by simpa using h2
  omega
 ·have h1 := of_decide_eq_false h1
  have h2 : ¬ (worthE t plan).1 = (worthE t (bestP t)).1 := by simpa using h2
  omega)
set_option maxRecDepth 100000 in
theorem lifted (os : Os) (started : os.Started) (H : Type) (enc : TypeId × Value → H) :
  ReturnsInHanded {} Tryz.checked os 3 .any (fun w args => (Rows.roundBestSpec.pre enc Tryz.prog Tryz.f3 Rows.roundBestRow.domain false w args ∧ laidMetH Tryz.prog laidN w) ∧ sizedMet enc Tryz.prog Tryz.f3 (OpenSpec.ofChange Rows.roundBestSpec) false w args)
   (Rows.roundBestSpec.post enc Tryz.prog Tryz.f3 false true false false) := by
 refine returnsInHanded_of_change_and (C := Tryz.checked) (X := fun w _ => laidMetH Tryz.prog laidN w) (fun _ _ _ hh h => h.of_heap hh) own started (by kernel_rfl) Tryz.func3
  (ChangeSpec.witness_at (enc := enc) (C := Tryz.checked) (os := os) (X := fun w _ => laidMetH Tryz.prog laidN w) false (laidWorld os) #[.agg #[.int .i64 0, .int .i64 0, .int .i64 0, .int .i64 0, .int .i64 0, .int .i64 0, .int .i64 0, .int .i64 0, .int .i64 0, .slice none 0 0, .slice none 0 0, .slice none 0 0, .slice none 0 0], .slice none 0 0] 8 rfl (by kernel_rfl) (by kernel_rfl) (by kernel_rfl) (by kernel_rfl) (by kernel_rfl) (laidWorld_met os _)) ?_
 intro W base args ds gs before hval0 hW hcnd hsz hL _
 have hval : ∀ (j : Nat) t v, Tryz.f3.params[j]? = some t → args[j]? = some v → Value.okWide Tryz.prog W .any base t v := hval0
 have hW' := hW
 obtain ⟨p, q, hA0, hV, rfl, hfz, hnd⟩ := hW
 have hA : DataW.TrodAll enc Tryz.prog W 0 (fun _ => true) true Tryz.f3.params.toList args.toList ds p := hA0
 rw [psL] at hA
 have hval : ∀ (j : Nat) t v, ([31, 32] : List TypeId)[j]? = some t → args.toList[j]? = some v → Value.okWide Tryz.prog W .any base t v := fun j t v h1 h2 => hval j t v (by rw [← Array.getElem?_toList, psL]; exact h1) (by rw [← Array.getElem?_toList]; exact h2)
 have r := hA
 obtain ⟨v0, vs0, d0, ds0, p0, q0, hargs, rfl, rfl, h0, r⟩ := trodAll_cons r
 obtain ⟨v1, vs1, d1, ds1, p1, q1, rfl, rfl, rfl, h1, r⟩ := trodAll_cons r
 obtain ⟨rfl, rfl, rfl⟩ := trodAll_nil r
 obtain rfl : args = #[v0, v1] := by cases args; simp_all
 obtain ⟨rfl, rfl⟩ := trodVars_none hV
 have lt0 : ∀ x ∈ p0, x.block < W.heap.size := by obtain ⟨m, hm⟩ := h0; exact DataW.trod_lt m _ _ _ hm
 obtain ⟨_, a0, c0, e0⟩ := arg_open (D := 8) (by kernel_rfl) h0 (fun n hn => of_decide_eq_true (List.all_eq_true.1 hsz n (DataW.weights_mem_each (j := 0) (t := 31) (by kernel_rfl) rfl n hn))) (hval 0 31 v0 rfl rfl)
 rw [show isAggT Tryz.prog 31 = true by kernel_rfl] at e0
 obtain ⟨t, rfl, ht⟩ := op31 c0
 have lt1 : ∀ x ∈ p1, x.block < W.heap.size := by obtain ⟨m, hm⟩ := h1; exact DataW.trod_lt m _ _ _ hm
 obtain ⟨_, a1, c1, e1⟩ := arg_open (D := 8) (by kernel_rfl) h1 (fun n hn => of_decide_eq_true (List.all_eq_true.1 hsz n (DataW.weights_mem_each (j := 1) (t := 32) (by kernel_rfl) rfl n hn))) (hval 1 32 v1 rfl rfl)
 rw [show isAggT Tryz.prog 32 = false by kernel_rfl] at e1
 obtain ⟨plan, rfl⟩ := opPlan c1
 have hr : Rvs (ofHeap W) none [t.av, .slc 3 (planA plan)] #[v0, v1] := ⟨rfl, fun j => by
  match j with
  | 0 => exact e0
  | 1 => exact e1
  | j + 2 => exact .undef ..⟩
 refine (law_calls (c3 t ht plan) (laid_globs hL) hr).mono fun e W' ⟨he, bel⟩ => ?_
 subst he
 exact ⟨_, rfl, _, _, _, [], _, [], hW', trodAll_mk1 (shut_bool un4 _), (trodAll_cons_mk (Below.trod laidOut (by kernel_rfl) (of_decide_eq_true (by kernel_rfl)) h0 bel lt0) (trodAll_cons_mk (Below.trod laidOut (by kernel_rfl) (of_decide_eq_true (by kernel_rfl)) h1 bel lt1) trodAll_mk0)), rfl, bel.frame _, fun h => by cases h⟩
theorem over : Rows.RoundBestSaid :=
 OpenClaim.holds_of_wide 3 Tryz.f3 rfl rfl rfl rfl rfl rfl rfl ⟨rfl, rfl, rfl, rfl, rfl⟩ rfl rfl rfl rfl rfl (by kernel_rfl) Tryz.func3 (by kernel_rfl)
  (of_decide_eq_true (by kernel_rfl)) (by unfold Func.isWrapper; first | (rw [if_pos (by decide +kernel)]; kernel_rfl) | (rw [if_neg (by decide +kernel)]; exact ⟨rfl, rfl⟩))
  (fun os started H enc _ => lifted os started H enc)
theorem proved : Rows.RoundBestCardSaid :=
 Claim7.holds_tied_plain_at .later [] [.data] true (true, "f4e39b73c9ac14d2e8fd8a12ac0a5b567e61d23b25d9e4a9d8400f1c83b80bad") false
  over (fun _ h => by cases h) (by kernel_rfl) (fun _ h => by cases h) roundBest_row_tie rfl ⟨rfl, rfl⟩ (by kernel_rfl) rfl
  (fun f fn hf hfn => by
   obtain rfl : f = 3 := Option.some.inj ((show Tryz.prog.funcNamed "linkboy/linkboylaw11.RoundBest" = some 3 by kernel_rfl).symm.trans hf) |>.symm
   obtain rfl : fn = Tryz.f3 := (Option.some.inj (Tryz.func3.symm.trans hfn)).symm
   exact ⟨by kernel_rfl, fun j t ht => by
    have hm : t ∈ [31, 32] := by rw [← psL]; exact Array.mem_toList_iff.2 (Array.mem_of_getElem? ht)
    have hall : ([31, 32].all fun u => !Tryz.prog.wantsStandIn u) = true := by kernel_rfl
    exact (show Tryz.prog.wantsStandIn t = false by simpa using List.all_eq_true.1 hall t hm)⟩)
  (by kernel_rfl)
#print axioms proved
end Go.Proofs.YtdeeekgohhkdbaaGreatDoor.roundBestDone

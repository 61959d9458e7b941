/- RoundBenefits: CheckProgramme and Benefit return what the document says, for any data. The variable of the package that it reads is as the program lays it. -/
import Derived.Test.YtdeeekgohhkdbaaGreatDoorPd
import Derived.Test.YtdeeekgohhkdbaaGreatDoorOc
import Derived.Test.YtdeeekgohhkdbaaGreatDoorCards
import Derived.Test.YtdeeekgohhkdbaaGreatDoorTie
namespace Go.Proofs.YtdeeekgohhkdbaaGreatDoor.roundBenefitsDone
open Go.ChangeShapes Go.WideShapes Go.ChangeAt Go.RowKit Go.Proofs.YtdeeekgohhkdbaaGreatDoor
theorem own : ownKnob Tryz.prog.godebug = none := by kernel_rfl
theorem laidOut : laidOutB Tryz.prog = true := by kernel_rfl
theorem un4 : Tryz.prog.underlying 4 = some .bool := by kernel_rfl
theorem psL : Tryz.f6.params.toList = [66, 67] := by kernel_rfl
theorem opA2 {d : Nat} {cs : List AV} (h : CellsT Tryz.prog d 67 cs) : ∃ x : Int × Int, cs = [.int .i64 x.1, .int .i64 x.2] := by
 obtain ⟨d1, ps, rfl, hl, hp⟩ := cells_array (n := 2) (e := 3) (by kernel_rfl) h
 match ps, hl, hp with
 | [p0, p1], _, hp =>
  obtain ⟨x0, rfl, _⟩ := cells_int (k := .i64) (by kernel_rfl) (hp p0 (by simp))
  obtain ⟨x1, rfl, _⟩ := cells_int (k := .i64) (by kernel_rfl) (hp p1 (by simp))
  exact ⟨(x0, x1), rfl⟩
def R6 (p : TRoProgramme) (x0 x1 : Int) (S : SpecF) (_Fr : FreshF) (_Sq : SeqF) (Q : PostF) : Prop :=
 ∃ n0 n1, S 23 [p.av] [] (.tup [iN n0, iN n1]) [] ∧ ∃ n3 n4, S 24 [p.av] [] (.tup [iN n3, iN n4]) [] ∧ ((n0 != n3) = true → Q (.bool false) []) ∧ ((n0 != n3) = false → ((n1 != n4) = true → Q (.bool false) []) ∧ ((n1 != n4) = false → ∃ n10 n11, S 25 [p.av, iN x0, iN x1] [] (.tup [iN n10, iN n11]) [] ∧ ∃ n13 n14, S 26 [p.av, iN x0, iN x1] [] (.tup [iN n13, iN n14]) [] ∧ ((n10 == n13) = true → ((n11 == n14) = true → ∃ b20, S 17 [] [] (.bool b20) [] ∧ Q (.bool b20) []) ∧ ((n11 == n14) = false → Q (.bool false) [])) ∧ ((n10 == n13) = false → Q (.bool false) [])))
theorem s6 (p : TRoProgramme) (x0 : Int) (x1 : Int) (v : AV) (O : List (List AV)) (h : R6 p x0 x1 Sp Fo So (fun r O' => r = v ∧ O' = O)) : Sp 6 [p.av, .agg [iN x0, iN x1]] [] v O :=
 spec_by (w := ⟨[], [], [], [], []⟩) (k := 0) (keep := ⟨[0, 1, 2, 3, 4, 5, 6, 7, 8, 9, 10, 28], [], [], []⟩) (boxes := []) mixed (by exact trivial) Tryz.func6 Tryz.call6 rfl rfl rfl (Nat.le_of_ble_eq_true rfl) (by kernel_rfl) h
theorem progIn_of {p : TRoProgramme} (h : p.Ok) : ProgIn p := fun x hx => (h.1.1 x hx).1
theorem c6 (p : TRoProgramme) (hp : p.Ok) (x0 x1 : Int) : Sp 6 [p.av, .agg [.int .i64 x0, .int .i64 x1]] [] (.bool true) [] := s6 p x0 x1 _ _ (by
 have hpi := progIn_of hp
 unfold R6
 refine ⟨_, _, c23 p hpi, _, _, c24 p hpi, fun h => absurd h (by simp), fun _ => ⟨fun h => absurd h (by simp), fun _ => ⟨_, _, c25 p hpi x0 x1, _, _, c26 p hpi x0 x1, fun _ => ⟨fun _ => ⟨_, awake_ok, rfl, by trivial⟩, fun h => absurd h (by simp)⟩, fun h => absurd h (by simp)⟩⟩⟩)
set_option maxRecDepth 100000 in
theorem lifted (os : Os) (started : os.Started) (H : Type) (enc : TypeId × Value → H) :
  ReturnsInHanded {} Tryz.checked os 6 .any (fun w args => (Rows.roundBenefitsSpec.pre enc Tryz.prog Tryz.f6 Rows.roundBenefitsRow.domain false w args ∧ laidMetH Tryz.prog laidN w) ∧ sizedMet enc Tryz.prog Tryz.f6 (OpenSpec.ofChange Rows.roundBenefitsSpec) false w args)
   (Rows.roundBenefitsSpec.post enc Tryz.prog Tryz.f6 false true false false) := by
 refine returnsInHanded_of_change_and (C := Tryz.checked) (X := fun w _ => laidMetH Tryz.prog laidN w) (fun _ _ _ hh h => h.of_heap hh) own started (by kernel_rfl) Tryz.func6
  (ChangeSpec.witness_at (enc := enc) (C := Tryz.checked) (os := os) (X := fun w _ => laidMetH Tryz.prog laidN w) false (laidWorld os) #[.agg #[.slice none 0 0, .slice none 0 0, .int .i64 0, .int .i64 0], .agg #[.int .i64 0, .int .i64 0]] 8 rfl (by kernel_rfl) (by kernel_rfl) (by kernel_rfl) (by kernel_rfl) (by kernel_rfl) (laidWorld_met os _)) ?_
 intro W base args ds gs before hval0 hW hcnd hsz hL _
 have hval : ∀ (j : Nat) t v, Tryz.f6.params[j]? = some t → args[j]? = some v → Value.okWide Tryz.prog W .any base t v := hval0
 have hW' := hW
 obtain ⟨p, q, hA0, hV, rfl, hfz, hnd⟩ := hW
 have hA : DataW.TrodAll enc Tryz.prog W 0 (fun _ => true) true Tryz.f6.params.toList args.toList ds p := hA0
 rw [psL] at hA
 have hval : ∀ (j : Nat) t v, ([66, 67] : List TypeId)[j]? = some t → args.toList[j]? = some v → Value.okWide Tryz.prog W .any base t v := fun j t v h1 h2 => hval j t v (by rw [← Array.getElem?_toList, psL]; exact h1) (by rw [← Array.getElem?_toList]; exact h2)
 have r := hA
 obtain ⟨v0, vs0, d0, ds0, p0, q0, hargs, rfl, rfl, h0, r⟩ := trodAll_cons r
 obtain ⟨v1, vs1, d1, ds1, p1, q1, rfl, rfl, rfl, h1, r⟩ := trodAll_cons r
 obtain ⟨rfl, rfl, rfl⟩ := trodAll_nil r
 obtain rfl : args = #[v0, v1] := by cases args; simp_all
 obtain ⟨rfl, rfl⟩ := trodVars_none hV
 have lt0 : ∀ x ∈ p0, x.block < W.heap.size := by obtain ⟨m, hm⟩ := h0; exact DataW.trod_lt m _ _ _ hm
 obtain ⟨_, a0, c0, e0⟩ := arg_open (D := 8) (by kernel_rfl) h0 (fun n hn => of_decide_eq_true (List.all_eq_true.1 hsz n (DataW.weights_mem_each (j := 0) (t := 66) (by kernel_rfl) rfl n hn))) (hval 0 66 v0 rfl rfl)
 rw [show isAggT Tryz.prog 66 = true by kernel_rfl] at e0
 obtain ⟨p, rfl, hp⟩ := op66 c0
 have lt1 : ∀ x ∈ p1, x.block < W.heap.size := by obtain ⟨m, hm⟩ := h1; exact DataW.trod_lt m _ _ _ hm
 obtain ⟨_, a1, c1, e1⟩ := arg_open (D := 8) (by kernel_rfl) h1 (fun n hn => of_decide_eq_true (List.all_eq_true.1 hsz n (DataW.weights_mem_each (j := 1) (t := 67) (by kernel_rfl) rfl n hn))) (hval 1 67 v1 rfl rfl)
 rw [show isAggT Tryz.prog 67 = true by kernel_rfl] at e1
 obtain ⟨y, rfl⟩ := opA2 c1
 have hr : Rvs (ofHeap W) none [p.av, .agg [.int .i64 y.1, .int .i64 y.2]] #[v0, v1] := ⟨rfl, fun j => by
  match j with
  | 0 => exact e0
  | 1 => exact e1
  | j + 2 => exact .undef ..⟩
 refine (law_calls (c6 p hp y.1 y.2) (laid_globs hL) hr).mono fun e W' ⟨he, bel⟩ => ?_
 subst he
 exact ⟨_, rfl, _, _, _, [], _, [], hW', trodAll_mk1 (shut_bool un4 _), (trodAll_cons_mk (Below.trod laidOut (by kernel_rfl) (of_decide_eq_true (by kernel_rfl)) h0 bel lt0) (trodAll_cons_mk (Below.trod laidOut (by kernel_rfl) (of_decide_eq_true (by kernel_rfl)) h1 bel lt1) trodAll_mk0)), rfl, bel.frame _, fun h => by cases h⟩
theorem over : Rows.RoundBenefitsSaid :=
 OpenClaim.holds_of_wide 6 Tryz.f6 rfl rfl rfl rfl rfl rfl rfl ⟨rfl, rfl, rfl, rfl, rfl⟩ rfl rfl rfl rfl rfl (by kernel_rfl) Tryz.func6 (by kernel_rfl)
  (of_decide_eq_true (by kernel_rfl)) (by unfold Func.isWrapper; first | (rw [if_pos (by decide +kernel)]; kernel_rfl) | (rw [if_neg (by decide +kernel)]; exact ⟨rfl, rfl⟩))
  (fun os started H enc _ => lifted os started H enc)
theorem proved : Rows.RoundBenefitsCardSaid :=
 Claim7.holds_tied_plain_at .later [] [.data] true (true, "f4e39b73c9ac14d2e8fd8a12ac0a5b567e61d23b25d9e4a9d8400f1c83b80bad") false
  over (fun _ h => by cases h) (by kernel_rfl) (fun _ h => by cases h) roundBenefits_row_tie rfl ⟨rfl, rfl⟩ (by kernel_rfl) rfl
  (fun f fn hf hfn => by
   obtain rfl : f = 6 := Option.some.inj ((show Tryz.prog.funcNamed "linkboy/linkboylaw11.RoundBenefits" = some 6 by kernel_rfl).symm.trans hf) |>.symm
   obtain rfl : fn = Tryz.f6 := (Option.some.inj (Tryz.func6.symm.trans hfn)).symm
   exact ⟨by kernel_rfl, fun j t ht => by
    have hm : t ∈ [66, 67] := by rw [← psL]; exact Array.mem_toList_iff.2 (Array.mem_of_getElem? ht)
    have hall : ([66, 67].all fun u => !Tryz.prog.wantsStandIn u) = true := by kernel_rfl
    exact (show Tryz.prog.wantsStandIn t = false by simpa using List.all_eq_true.1 hall t hm)⟩)
  (by kernel_rfl)
#print axioms proved
end Go.Proofs.YtdeeekgohhkdbaaGreatDoor.roundBenefitsDone

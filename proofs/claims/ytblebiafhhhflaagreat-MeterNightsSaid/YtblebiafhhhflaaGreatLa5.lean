/- MeterNights: the part of the night after a day that is on this day is not longer than the lamps burn on it, for any inventory and item. -/
import Derived.Test.YtblebiafhhhflaaGreatId
import Derived.Test.YtblebiafhhhflaaGreatOa
namespace Go.Proofs.YtblebiafhhhflaaGreat.meterNightsDone
open Go.ChangeShapes Go.WideShapes Go.ChangeAt Go.RowKit Go.Proofs.YtblebiafhhhflaaGreat
theorem own : ownKnob Tryz.prog.godebug = none := by kernel_rfl
theorem laidOut : laidOutB Tryz.prog = true := by kernel_rfl
theorem un4 : Tryz.prog.underlying 4 = some .bool := by kernel_rfl
theorem psL : Tryz.f5.params.toList = [34, 36] := by kernel_rfl
def R5 (t : TMtTask) (x : TAsk) (S : SpecF) (_Fr : FreshF) (_Sq : SeqF) (Q : AV → List (List AV) → Prop) : Prop :=
  ∃ n0 n1, S 14 [t.av, AV.int .i64 x.Index, AV.int .i64 x.Day] [] (AV.tup [AV.int .i64 n0, AV.int .i64 n1]) [] ∧ ((n1 != (0 : Int)) = true → ∃ b5, S 12 [] [] (AV.bool b5) [] ∧ Q (AV.bool b5) []) ∧ ((n1 != (0 : Int)) = false → ∃ b5, S 13 [t.av, AV.int .i64 x.Index] [] (AV.bool b5) [] ∧ ((!b5) = true → ∃ b9, S 12 [] [] (AV.bool b9) [] ∧ Q (AV.bool b9) []) ∧ ((!b5) = false → ∃ s9 n10 n11 n12 n13 n14 n15 n16, ((0 : Int) ≤ x.Index ∧ (8 : Nat) = (8 : Nat) ∧ (List.map TMtItem.av t.Items)[x.Index.toNat]? = some (AV.agg [AV.str s9, AV.int .i64 n10, AV.int .i64 n11, AV.int .i64 n12, AV.int .i64 n13, AV.int .i64 n14, AV.int .i64 n15, AV.int .i64 n16])) ∧ (decide (x.Day < n15) = true → ((n0 == (0 : Int)) = true → ∃ b22, S 12 [] [] (AV.bool b22) [] ∧ Q (AV.bool b22) []) ∧ ((n0 == (0 : Int)) = false → Q (AV.bool false) [])) ∧ (decide (x.Day < n15) = false → (decide (x.Day ≥ n16) = true → ((n0 == (0 : Int)) = true → ∃ b24, S 12 [] [] (AV.bool b24) [] ∧ Q (AV.bool b24) []) ∧ ((n0 == (0 : Int)) = false → Q (AV.bool false) [])) ∧ (decide (x.Day ≥ n16) = false → ∃ n22 n23 n24, S 15 [t.City.av, AV.int .i64 x.Day] [] (AV.tup [AV.agg [AV.int .i64 n22, AV.int .i64 n23], AV.int .i64 n24]) [] ∧ ((n24 == (0 : Int)) = true → (decide (n0 ≥ (0 : Int)) = true → (decide (n0 ≤ (86400 : Int)) = true → (decide (IntKind.i64.wrap ((if false = true then if (86400 : Int) > n23 then (86400 : Int) else n23 else if (86400 : Int) < n23 then (86400 : Int) else n23) - if true = true then if (0 : Int) > n22 then (0 : Int) else n22 else if (0 : Int) < n22 then (0 : Int) else n22) ≤ n0) = true → ∃ b34, S 12 [] [] (AV.bool b34) [] ∧ Q (AV.bool b34) []) ∧ (decide (IntKind.i64.wrap ((if false = true then if (86400 : Int) > n23 then (86400 : Int) else n23 else if (86400 : Int) < n23 then (86400 : Int) else n23) - if true = true then if (0 : Int) > n22 then (0 : Int) else n22 else if (0 : Int) < n22 then (0 : Int) else n22) ≤ n0) = false → Q (AV.bool false) [])) ∧ (decide (n0 ≤ (86400 : Int)) = false → Q (AV.bool false) [])) ∧ (decide (n0 ≥ (0 : Int)) = false → Q (AV.bool false) [])) ∧ ((n24 == (0 : Int)) = false → Q (AV.bool false) [])))))
theorem r5 (t : TMtTask) (x : TAsk) (S : SpecF) (Fr : FreshF) (Sq : SeqF) (Q : AV → List (List AV) → Prop) : awpF Tryz.prog (mkS Tryz.prog S Fr Sq ⟨[], [], [], [], []⟩ 0) 0 ⟨[0, 1, 2, 3, 4, 5, 6, 7, 8, 26, 45], [], [], []⟩ Tryz.f5 [t.av, x.av] [] Q = R5 t x S Fr Sq Q := by kernel_rfl
theorem s5 (t : TMtTask) (x : TAsk) (v : AV) (O : List (List AV)) (h : R5 t x (SpecOf Tryz.prog) (FreshOf Tryz.prog) (SeqOf Tryz.prog) (fun r O' => r = v ∧ O' = O)) : SpecOf Tryz.prog 5 [t.av, x.av] [] v O :=
  spec_by (boxes := []) mixed (by exact trivial) Tryz.func5 Tryz.call5 rfl rfl rfl (Nat.le_of_ble_eq_true rfl) (r5 t x (SpecOf Tryz.prog) (FreshOf Tryz.prog) (SeqOf Tryz.prog) _) h
theorem c5 (t : TMtTask) (ht : t.Ok) (x : TAsk) : Sp 5 [t.av, x.av] [] (.bool true) [] := s5 t x _ _ (by
  obtain ⟨hT, hi, _, _⟩ := taskOK_of ht
  unfold R5
  have awake : ∃ b : Bool, Sp 12 [] [] (.bool b) [] ∧ (AV.bool b = .bool true ∧ ([] : List (List AV)) = []) := ⟨_, c12, rfl, rfl⟩
  refine ⟨_, _, c14 t hT (by omega) x.Index x.Day, fun _ => awake, fun h => ⟨_, c13 t x.Index, fun _ => awake, fun hw => ?_⟩⟩
  have h : (burnsR t x.Index x.Day).2 = 0 := by simpa using h
  obtain ⟨hv, g0, g1, g2, hb⟩ : TaskV t ∧ 0 ≤ x.Index ∧ x.Index < t.Items.length ∧ daylessB x.Day = false ∧ (burnsR t x.Index x.Day).1 = if goneB (itemAt t x.Index) x.Day then 0 else burnS (dayP t x.Day []) := by
    unfold burnsR at h ⊢
    split at h
    · rename_i h1; exact absurd h h1
    rename_i h1
    split at h
    · simp at h
    rename_i h2
    obtain ⟨hv, h3, h4⟩ := accE_zero (by omega) (Decidable.byContradiction h1)
    refine ⟨hv, h3, h4, by simpa using h2, ?_⟩
    rw [if_neg h1, if_neg h2]
    split <;> rfl
  obtain ⟨_, hmem, hx⟩ := item_get g0 g1
  rw [hb]
  have hit := hv.item hmem
  generalize itemAt t x.Index = y at *
  have hu := hit.until'
  have eu : IntKind.i64.wrap (y.Until - 1) = y.Until - 1 := i64 (by omega)
  have gone : (x.Day < y.From ∨ x.Day ≥ y.Until) → goneB y x.Day = true := by
    intro hh
    unfold goneB outB
    rw [eu]
    simp only [Bool.or_eq_true, decide_eq_true_eq]
    omega
  refine ⟨y.Name, y.Lamp, y.Count, y.Profile, y.Meter, y.Declared, y.From, y.Until, ⟨g0, rfl, hx⟩, fun h1 => ?_, fun h1 => ⟨fun h2 => ?_, fun h2 => ?_⟩⟩
  · rw [gone (.inl (of_decide_eq_true h1))]
    exact ⟨fun _ => awake, fun q => (by cases q)⟩
  · rw [gone (.inr (of_decide_eq_true h2))]
    exact ⟨fun _ => awake, fun q => (by cases q)⟩
  · have h1 := of_decide_eq_false h1
    have h2 := of_decide_eq_false h2
    have hng : goneB y x.Day = false := by
      unfold goneB
      rw [eu]
      exact outF.2 ⟨by omega, by omega⟩
    rw [hng]
    have hd := outF.1 g2
    obtain ⟨b0, b1, b2, b3, b4, b5⟩ := burns_law hd hv.city
    have b5 := b5 _ _ rfl rfl
    unfold Bd at b3 b4
    simp only [Bool.false_eq_true, if_false, if_true]
    generalize burnS (dayP t x.Day []) = n at *
    refine ⟨_, _, _, c15 t.City x.Day, ?_⟩
    rw [b2]
    generalize (nightR t.City x.Day).1 = N at *
    refine ⟨fun _ => ⟨fun _ => ⟨fun _ => ⟨fun _ => ⟨_, c12, by trivial, by trivial⟩, fun q => ?_⟩, fun q => ?_⟩, fun q => ?_⟩, fun q => (by cases q)⟩
    · have q := of_decide_eq_false q
      exfalso
      refine q ?_
      have e : (if 86400 < N.Off then 86400 else N.Off) - (if 0 > N.On then 0 else N.On) = min 86400 N.Off - max 0 N.On := by split <;> split <;> omega
      rw [e, i64 (by omega)]; omega
    · have q := of_decide_eq_false q; omega
    · have q := of_decide_eq_false q; omega)
set_option maxRecDepth 100000 in
theorem lifted (os : Os) (started : os.Started) (H : Type) (enc : TypeId × Value → H) :
    ReturnsInHanded {} Tryz.checked os 5 .any (Rows.meterNightsSpec.pre6 enc Tryz.prog Tryz.f5 Rows.meterNightsRow.domain false) (Rows.meterNightsSpec.post enc Tryz.prog Tryz.f5 false true false false) := by
  refine returnsInHanded_of_change_sized (C := Tryz.checked) own started (by kernel_rfl) Tryz.func5
    (ChangeSpec.witness6 (enc := enc) (C := Tryz.checked) false ⟨#[], #[.agg #[.int .i64 0, .int .i64 0, .int .i64 0, .int .i64 0, .int .i64 0, .slice none 0 0, .slice none 0 0, .slice none 0 0, .slice none 0 0, .slice none 0 0], .agg #[.int .i64 0, .int .i64 0, .int .i64 0]], []⟩ 8 (by kernel_rfl) (by kernel_rfl) (by kernel_rfl) (by kernel_rfl)) ?_
  intro W base args ds gs before hval0 hW hcnd hsz _
  have hval : ∀ (j : Nat) t v, Tryz.f5.params[j]? = some t → args[j]? = some v → Value.okWide Tryz.prog W .any base t v := hval0
  have hW' := hW
  obtain ⟨p, q, hA0, hV, rfl, hfz, hnd⟩ := hW
  have hA : DataW.TrodAll enc Tryz.prog W 0 (fun _ => true) true Tryz.f5.params.toList args.toList ds p := hA0
  rw [psL] at hA
  have hval : ∀ (j : Nat) t v, ([34, 36] : List TypeId)[j]? = some t → args.toList[j]? = some v → Value.okWide Tryz.prog W .any base t v := fun j t v h1 h2 => hval j t v (by rw [← Array.getElem?_toList, psL]; exact h1) (by rw [← Array.getElem?_toList]; exact h2)
  have r := hA
  obtain ⟨v0, vs0, d0, ds0, p0, q0, hargs, rfl, rfl, h0, r⟩ := trodAll_cons r
  obtain ⟨v1, vs1, d1, ds1, p1, q1, rfl, rfl, rfl, h1, r⟩ := trodAll_cons r
  obtain ⟨rfl, rfl, rfl⟩ := trodAll_nil r
  obtain rfl : args = #[v0, v1] := by cases args; simp_all
  obtain ⟨rfl, rfl⟩ := trodVars_none hV
  have lt0 : ∀ x ∈ p0, x.block < W.heap.size := by obtain ⟨m, hm⟩ := h0; exact DataW.trod_lt m _ _ _ hm
  obtain ⟨_, a0, c0, e0⟩ := arg_open (D := 8) (by kernel_rfl) h0 (fun n hn => of_decide_eq_true (List.all_eq_true.1 hsz n (DataW.weights_mem_each (j := 0) (t := 34) (by kernel_rfl) rfl n hn))) (hval 0 34 v0 rfl rfl)
  rw [show isAggT Tryz.prog 34 = true by kernel_rfl] at e0
  obtain ⟨t, rfl, ht⟩ := op34 c0
  have lt1 : ∀ x ∈ p1, x.block < W.heap.size := by obtain ⟨m, hm⟩ := h1; exact DataW.trod_lt m _ _ _ hm
  obtain ⟨_, a1, c1, e1⟩ := arg_open (D := 8) (by kernel_rfl) h1 (fun n hn => of_decide_eq_true (List.all_eq_true.1 hsz n (DataW.weights_mem_each (j := 1) (t := 36) (by kernel_rfl) rfl n hn))) (hval 1 36 v1 rfl rfl)
  rw [show isAggT Tryz.prog 36 = true by kernel_rfl] at e1
  obtain ⟨x, rfl, hx⟩ := op36 c1
  have hr : Rvs (ofHeap W) none [t.av, x.av] #[v0, v1] := ⟨rfl, fun j => by
    match j with
    | 0 => exact e0
    | 1 => exact e1
    | j + 2 => exact .undef ..⟩
  refine (law_calls (c5 t ht x) hr).mono fun e W' ⟨he, bel⟩ => ?_
  subst he
  exact ⟨_, rfl, _, _, _, [], _, [], hW', trodAll_mk1 (shut_bool un4 _), (trodAll_cons_mk (Below.trod laidOut (by kernel_rfl) (of_decide_eq_true (by kernel_rfl)) h0 bel lt0) (trodAll_cons_mk (Below.trod laidOut (by kernel_rfl) (of_decide_eq_true (by kernel_rfl)) h1 bel lt1) trodAll_mk0)), rfl, bel.frame _, fun h => by cases h⟩
theorem over : Rows.meterNightsRow.holds Tryz.pinned (OpenSpec.ofChange Rows.meterNightsSpec) :=
  OpenClaim.holds_of_wide 5 Tryz.f5 rfl rfl rfl rfl rfl rfl rfl ⟨rfl, rfl, rfl, rfl, rfl⟩ rfl rfl rfl rfl rfl (by kernel_rfl) Tryz.func5 (by kernel_rfl)
    (of_decide_eq_true (by kernel_rfl)) (by unfold Func.isWrapper; first | (rw [if_pos (by decide +kernel)]; kernel_rfl) | (rw [if_neg (by decide +kernel)]; exact ⟨rfl, rfl⟩))
    (fun os started H enc _ => lifted os started H enc)
theorem proved : Rows.MeterNightsSaid := over
#print axioms proved
end Go.Proofs.YtblebiafhhhflaaGreat.meterNightsDone

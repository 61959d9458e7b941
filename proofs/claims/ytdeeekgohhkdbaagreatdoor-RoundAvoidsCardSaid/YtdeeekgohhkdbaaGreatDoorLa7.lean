/- RoundAvoids: the benefit of an inspection is, rounded down, the sum over all days from it to the end of what the harm to be expected is less, for any data, asset and period. The variable of the package that it reads is as the program lays it. -/
import Derived.Test.YtdeeekgohhkdbaaGreatDoorSk
import Derived.Test.YtdeeekgohhkdbaaGreatDoorPd
import Derived.Test.YtdeeekgohhkdbaaGreatDoorOc
import Derived.Test.YtdeeekgohhkdbaaGreatDoorCards
import Derived.Test.YtdeeekgohhkdbaaGreatDoorTie
namespace Go.Proofs.YtdeeekgohhkdbaaGreatDoor.roundAvoidsDone
open Go.ChangeShapes Go.WideShapes Go.ChangeAt Go.RowKit Go.Proofs.YtdeeekgohhkdbaaGreatDoor
theorem own : ownKnob Tryz.prog.godebug = none := by kernel_rfl
theorem laidOut : laidOutB Tryz.prog = true := by kernel_rfl
theorem un4 : Tryz.prog.underlying 4 = some .bool := by kernel_rfl
theorem psL : Tryz.f7.params.toList = [66, 3, 3] := by kernel_rfl
def R7 (p : TRoProgramme) (asset period : Int) (S : SpecF) (_Fr : FreshF) (_Sq : SeqF) (Q : PostF) : Prop :=
 ∃ n0 n1, S 25 [p.av, iN asset, iN period] [] (.tup [iN n0, iN n1]) [] ∧ ((n1 != 0) = true → ((n1 != 0) = true → ∃ b7, S 17 [] [] (.bool b7) [] ∧ Q (.bool b7) []) ∧ ((n1 != 0) = false → Q (.bool false) [])) ∧ ((n1 != 0) = false → (decide (asset < 0) = true → ((n1 != 0) = true → ∃ b9, S 17 [] [] (.bool b9) [] ∧ Q (.bool b9) []) ∧ ((n1 != 0) = false → Q (.bool false) [])) ∧ (decide (asset < 0) = false → (decide (asset ≥ (↑(List.map TRoAsset.av p.Assets).length : Int)) = true → ((n1 != 0) = true → ∃ b11, S 17 [] [] (.bool b11) [] ∧ Q (.bool b11) []) ∧ ((n1 != 0) = false → Q (.bool false) [])) ∧ (decide (asset ≥ (↑(List.map TRoAsset.av p.Assets).length : Int)) = false → (decide ((↑(List.map (AV.int IntKind.i64) p.Budgets).length : Int) > (3 : Int)) = true → ((n1 != 0) = true → ∃ b13, S 17 [] [] (.bool b13) [] ∧ Q (.bool b13) []) ∧ ((n1 != 0) = false → Q (.bool false) [])) ∧ (decide ((↑(List.map (AV.int IntKind.i64) p.Budgets).length : Int) > (3 : Int)) = false → (decide (p.Days > 4000) = true → ((n1 != 0) = true → ∃ b15, S 17 [] [] (.bool b15) [] ∧ Q (.bool b15) []) ∧ ((n1 != 0) = false → Q (.bool false) [])) ∧ (decide (p.Days > 4000) = false → (decide (p.First < 0) = true → ((n1 != 0) = true → ∃ b17, S 17 [] [] (.bool b17) [] ∧ Q (.bool b17) []) ∧ ((n1 != 0) = false → Q (.bool false) [])) ∧ (decide (p.First < 0) = false → (decide (p.First > 40000) = true → ((n1 != 0) = true → ∃ b19, S 17 [] [] (.bool b19) [] ∧ Q (.bool b19) []) ∧ ((n1 != 0) = false → Q (.bool false) [])) ∧ (decide (p.First > 40000) = false → ∃ s17 n18 n19 n20 n21, ((0 : Int) ≤ asset ∧ (5 : Nat) = (5 : Nat) ∧ (List.map TRoAsset.av p.Assets)[asset.toNat]? = some (.agg [AV.str s17, iN n18, iN n19, iN n20, iN n21])) ∧ ∃ (I23 : Nat → List AV → Prop), (∃ m25, I23 m25 [iN 0, iN (IntKind.i64.wrap (p.First + IntKind.i64.wrap (period * p.Days)))]) ∧ ∀ (m25 : Nat) (n26 n27 : Int), I23 m25 [iN n26, iN n27] → (decide (n27 < IntKind.i64.wrap (p.First + IntKind.i64.wrap ((↑(List.map (AV.int IntKind.i64) p.Budgets).length : Int) * p.Days))) = true → p.cs = p.cs ∧ Same [AV.str s17, iN n18, iN n19, iN n20, iN n21] ∧ ∃ k33, k33 < m25 ∧ I23 k33 [iN (IntKind.i64.wrap (IntKind.i64.wrap (n26 + IntKind.i64.wrap (n27 - n21)) - IntKind.i64.wrap (n27 - IntKind.i64.wrap (p.First + IntKind.i64.wrap (period * p.Days))))), iN (IntKind.i64.wrap (n27 + 1))]) ∧ (decide (n27 < IntKind.i64.wrap (p.First + IntKind.i64.wrap ((↑(List.map (AV.int IntKind.i64) p.Budgets).length : Int) * p.Days))) = false → ((n0 == IntKind.i64.wrap ((IntKind.i64.wrap (IntKind.i64.wrap (n26 * n19) * n20)).tdiv (1000000000 : Int))) = true → ∃ b33, S 17 [] [] (.bool b33) [] ∧ Q (.bool b33) []) ∧ ((n0 == IntKind.i64.wrap ((IntKind.i64.wrap (IntKind.i64.wrap (n26 * n19) * n20)).tdiv (1000000000 : Int))) = false → Q (.bool false) [])))))))))
theorem s7 (p : TRoProgramme) (asset : Int) (period : Int) (v : AV) (O : List (List AV)) (h : R7 p asset period Sp Fo So (fun r O' => r = v ∧ O' = O)) : Sp 7 [p.av, iN asset, iN period] [] v O :=
 spec_by (w := ⟨[], [], [], [], []⟩) (k := 0) (keep := ⟨[0, 1, 2, 3, 6, 7, 8, 9, 10, 11, 12, 13, 54, 84], [⟨8, [(12, iN 0), (13, iN 0)], [], [], [], [], []⟩], [], []⟩) (boxes := []) mixed (by exact trivial) Tryz.func7 Tryz.call7 rfl rfl rfl (Nat.le_of_ble_eq_true rfl) (by kernel_rfl) h
theorem progIn_of {p : TRoProgramme} (h : p.Ok) : ProgIn p := fun x hx => (h.1.1 x hx).1
theorem c7 (p : TRoProgramme) (hp : p.Ok) (asset period : Int) : Sp 7 [p.av, .int .i64 asset, .int .i64 period] [] (.bool true) [] := s7 p asset period _ _ (by
 have hpi := progIn_of hp
 unfold R7
 simp only [List.length_map]
 have awake : ∃ b : Bool, Sp 17 [] [] (.bool b) [] ∧ (AV.bool b = .bool true ∧ True) := ⟨_, awake_ok, rfl, trivial⟩
 refine ⟨_, _, c25 p hpi asset period, fun h => ⟨fun _ => awake, fun h' => by rw [h] at h'; cases h'⟩, fun h => ?_⟩
 have he : (benefitR p asset period).2 = 0 := by simpa using h
 obtain ⟨hv, a0, a1, k0, k1, hb⟩ : ProgV p ∧ 0 ≤ asset ∧ asset < p.Assets.length ∧ 0 ≤ period ∧ period < p.Budgets.length ∧ (benefitR p asset period).1 = benE p (assetAt p asset) period := by
  unfold benefitR at he ⊢
  by_cases h0 : (progE p).2 ≠ 0
  ·rw [if_pos h0] at he; exact absurd he h0
  rw [if_neg h0] at he ⊢
  by_cases h1 : outB asset 0 ((p.Assets.length : Int) - 1) = true
  ·rw [if_pos h1] at he; exact absurd he (by simp)
  rw [if_neg h1] at he ⊢
  by_cases h2 : outB period 0 ((p.Budgets.length : Int) - 1) = true
  ·rw [if_pos h2] at he; exact absurd he (by simp)
  rw [if_neg h2]
  have h1 := outC.1 (by simpa using h1 : outB asset 0 ((p.Assets.length : Int) - 1) = false)
  have h2 := outC.1 (by simpa using h2 : outB period 0 ((p.Budgets.length : Int) - 1) = false)
  exact ⟨prog_ok (Decidable.not_not.1 h0), h1.1, by omega, h2.1, by omega, rfl⟩
 obtain ⟨hx, hmem⟩ := asset_get a0 a1
 obtain ⟨e1, e2, e3, e4, e5, e6, e7⟩ := ben_ok hv hmem k0 k1
 have hd := hv.days
 have hf := hv.first
 have hbl := hv.bl
 have no : ∀ {P : Prop} {b : Bool}, b = false → b = true → P := fun h1 h2 => by rw [h1] at h2; cases h2
 refine ⟨no (decide_eq_false (by omega)), fun _ => ⟨no (decide_eq_false (by omega)), fun _ => ⟨no (decide_eq_false (by omega)), fun _ => ⟨no (decide_eq_false (by omega)), fun _ => ⟨no (decide_eq_false (by omega)), fun _ => ⟨no (decide_eq_false (by omega)), fun _ => ?_⟩⟩⟩⟩⟩⟩
 rw [hb, e1]
 have w3 : IntKind.i64.wrap (period * p.Days) = period * p.Days := by generalize period * p.Days = z at e7; exact i64 (by omega)
 have w4 : IntKind.i64.wrap (p.First + period * p.Days) = p.First + period * p.Days := by generalize period * p.Days = z at e7; exact i64 (by omega)
 have b0 := mul_bd (a := (p.Budgets.length : Int)) (b := p.Days) (A := 3) (B := 4000) (by omega) (by omega) (by omega) (by omega)
 have w5 : IntKind.i64.wrap ((p.Budgets.length : Int) * p.Days) = (p.Budgets.length : Int) * p.Days := by generalize (p.Budgets.length : Int) * p.Days = z at b0; exact i64 (by omega)
 have w6 : IntKind.i64.wrap (p.First + (p.Budgets.length : Int) * p.Days) = p.First + (p.Budgets.length : Int) * p.Days := by generalize (p.Budgets.length : Int) * p.Days = z at b0; exact i64 (by omega)
 rw [w3, w4, w5, w6]
 have hL : leftN p period = (p.Budgets.length : Int) * p.Days - period * p.Days := by unfold leftN; rw [Int.sub_mul]
 have hS : sinceN p (assetAt p asset) period = p.First + period * p.Days - (assetAt p asset).Last := rfl
 obtain ⟨_, hr, hh, hl⟩ := hv.ass _ hmem
 generalize assetAt p asset = x at *
 generalize hA : leftN p period = L at *
 generalize hB : sinceN p x period = a at *
 generalize hD : period * p.Days = D at *
 generalize (p.Budgets.length : Int) * p.Days = E at *
 refine ⟨_, _, _, _, _, ⟨a0, by trivial, hx⟩, fun m vs => ∃ j : Nat, vs = [.int .i64 ((j : Int) * a), .int .i64 (p.First + D + j)] ∧ (j : Int) ≤ L ∧ m = L.toNat - j, ⟨_, 0, by simp, by omega, rfl⟩, ?_⟩
 rintro m n26 n27 ⟨j, hj, hle, rfl⟩
 cases hj
 have bj := mul_bd (a := (j : Int)) (b := a) (A := 12000) (B := 48000) (by omega) (by omega) (by omega) (by omega)
 refine ⟨fun g => ?_, fun g => ?_⟩
 ·have g := of_decide_eq_true g
  have bk := mul_bd (a := (j : Int) + 1) (b := a) (A := 12000) (B := 48000) (by omega) (by omega) (by omega) (by omega)
  have hs : ((j : Int) + 1) * a = (j : Int) * a + a := by rw [Int.add_mul, Int.one_mul]
  refine ⟨by trivial, by trivial, _, (by omega : L.toNat - (j + 1) < L.toNat - j), j + 1, ?_, by omega, rfl⟩
  rw [show ((j + 1 : Nat) : Int) = (j : Int) + 1 by omega, hs]
  rw [hs] at bk
  generalize (j : Int) * a = z at *
  rw [show IntKind.i64.wrap (p.First + D + (j : Int) - x.Last) = p.First + D + (j : Int) - x.Last from i64 (by omega), show IntKind.i64.wrap (z + (p.First + D + (j : Int) - x.Last)) = z + (p.First + D + (j : Int) - x.Last) from i64 (by omega),
   show IntKind.i64.wrap (p.First + D + (j : Int) - (p.First + D)) = (j : Int) from by rw [show p.First + D + (j : Int) - (p.First + D) = (j : Int) by omega]; exact i64 (by omega),
   show IntKind.i64.wrap (z + (p.First + D + (j : Int) - x.Last) - (j : Int)) = z + a from by rw [show z + (p.First + D + (j : Int) - x.Last) - (j : Int) = z + a by omega]; exact i64 (by omega),
   show IntKind.i64.wrap (p.First + D + (j : Int) + 1) = p.First + D + ((j : Int) + 1) from by rw [show p.First + D + (j : Int) + 1 = p.First + D + ((j : Int) + 1) by omega]; exact i64 (by omega)]
 ·have g := of_decide_eq_false g
  have hjL : (j : Int) = L := by omega
  rw [hjL]
  have bR := mul_bd (a := L * a) (b := x.Rate) (A := 576000000) (B := 1000) e5.1 e5.2 hr.1 hr.2
  have hm : L * a * x.Rate * x.Harm = L * a * (x.Rate * x.Harm) := by rw [Int.mul_assoc]
  rw [show IntKind.i64.wrap (L * a * x.Rate) = L * a * x.Rate by generalize L * a * x.Rate = z at bR; exact i64 (by omega), hm]
  rw [show IntKind.i64.wrap (L * a * (x.Rate * x.Harm)) = L * a * (x.Rate * x.Harm) by generalize L * a * (x.Rate * x.Harm) = z at e6; exact i64 (by omega)]
  unfold benN
  generalize L * a * (x.Rate * x.Harm) = z at e6
  have ht : z.tdiv 1000000000 = z / 1000000000 := Int.tdiv_eq_ediv_of_nonneg e6.1
  rw [ht, show IntKind.i64.wrap (z / 1000000000) = z / 1000000000 from i64 (by omega)]
  exact ⟨fun _ => awake, fun h' => by simp at h'⟩)
set_option maxRecDepth 100000 in
theorem lifted (os : Os) (started : os.Started) (H : Type) (enc : TypeId × Value → H) :
  ReturnsInHanded {} Tryz.checked os 7 .any (fun w args => (Rows.roundAvoidsSpec.pre enc Tryz.prog Tryz.f7 Rows.roundAvoidsRow.domain false w args ∧ laidMetH Tryz.prog laidN w) ∧ sizedMet enc Tryz.prog Tryz.f7 (OpenSpec.ofChange Rows.roundAvoidsSpec) false w args)
   (Rows.roundAvoidsSpec.post enc Tryz.prog Tryz.f7 false true false false) := by
 refine returnsInHanded_of_change_and (C := Tryz.checked) (X := fun w _ => laidMetH Tryz.prog laidN w) (fun _ _ _ hh h => h.of_heap hh) own started (by kernel_rfl) Tryz.func7
  (ChangeSpec.witness_at (enc := enc) (C := Tryz.checked) (os := os) (X := fun w _ => laidMetH Tryz.prog laidN w) false (laidWorld os) #[.agg #[.slice none 0 0, .slice none 0 0, .int .i64 0, .int .i64 0], .int .i64 0, .int .i64 0] 8 rfl (by kernel_rfl) (by kernel_rfl) (by kernel_rfl) (by kernel_rfl) (by kernel_rfl) (laidWorld_met os _)) ?_
 intro W base args ds gs before hval0 hW hcnd hsz hL _
 have hval : ∀ (j : Nat) t v, Tryz.f7.params[j]? = some t → args[j]? = some v → Value.okWide Tryz.prog W .any base t v := hval0
 have hW' := hW
 obtain ⟨p, q, hA0, hV, rfl, hfz, hnd⟩ := hW
 have hA : DataW.TrodAll enc Tryz.prog W 0 (fun _ => true) true Tryz.f7.params.toList args.toList ds p := hA0
 rw [psL] at hA
 have hval : ∀ (j : Nat) t v, ([66, 3, 3] : List TypeId)[j]? = some t → args.toList[j]? = some v → Value.okWide Tryz.prog W .any base t v := fun j t v h1 h2 => hval j t v (by rw [← Array.getElem?_toList, psL]; exact h1) (by rw [← Array.getElem?_toList]; exact h2)
 have r := hA
 obtain ⟨v0, vs0, d0, ds0, p0, q0, hargs, rfl, rfl, h0, r⟩ := trodAll_cons r
 obtain ⟨v1, vs1, d1, ds1, p1, q1, rfl, rfl, rfl, h1, r⟩ := trodAll_cons r
 obtain ⟨v2, vs2, d2, ds2, p2, q2, rfl, rfl, rfl, h2, r⟩ := trodAll_cons r
 obtain ⟨rfl, rfl, rfl⟩ := trodAll_nil r
 obtain rfl : args = #[v0, v1, v2] := by cases args; simp_all
 obtain ⟨rfl, rfl⟩ := trodVars_none hV
 have lt0 : ∀ x ∈ p0, x.block < W.heap.size := by obtain ⟨m, hm⟩ := h0; exact DataW.trod_lt m _ _ _ hm
 obtain ⟨_, a0, c0, e0⟩ := arg_open (D := 8) (by kernel_rfl) h0 (fun n hn => of_decide_eq_true (List.all_eq_true.1 hsz n (DataW.weights_mem_each (j := 0) (t := 66) (by kernel_rfl) rfl n hn))) (hval 0 66 v0 rfl rfl)
 rw [show isAggT Tryz.prog 66 = true by kernel_rfl] at e0
 obtain ⟨p, rfl, hp⟩ := op66 c0
 have lt1 : ∀ x ∈ p1, x.block < W.heap.size := by obtain ⟨m, hm⟩ := h1; exact DataW.trod_lt m _ _ _ hm
 obtain ⟨_, a1, c1, e1⟩ := arg_open (D := 8) (by kernel_rfl) h1 (fun n hn => of_decide_eq_true (List.all_eq_true.1 hsz n (DataW.weights_mem_each (j := 1) (t := 3) (by kernel_rfl) rfl n hn))) (hval 1 3 v1 rfl rfl)
 rw [show isAggT Tryz.prog 3 = false by kernel_rfl] at e1
 obtain ⟨n1, rfl, hn1⟩ := cells_int (k := .i64) (by kernel_rfl) c1
 have lt2 : ∀ x ∈ p2, x.block < W.heap.size := by obtain ⟨m, hm⟩ := h2; exact DataW.trod_lt m _ _ _ hm
 obtain ⟨_, a2, c2, e2⟩ := arg_open (D := 8) (by kernel_rfl) h2 (fun n hn => of_decide_eq_true (List.all_eq_true.1 hsz n (DataW.weights_mem_each (j := 2) (t := 3) (by kernel_rfl) rfl n hn))) (hval 2 3 v2 rfl rfl)
 rw [show isAggT Tryz.prog 3 = false by kernel_rfl] at e2
 obtain ⟨n2, rfl, hn2⟩ := cells_int (k := .i64) (by kernel_rfl) c2
 have hr : Rvs (ofHeap W) none [p.av, .int .i64 n1, .int .i64 n2] #[v0, v1, v2] := ⟨rfl, fun j => by
  match j with
  | 0 => exact e0
  | 1 => exact e1
  | 2 => exact e2
  | j + 3 => exact .undef ..⟩
 refine (law_calls (c7 p hp n1 n2) (laid_globs hL) hr).mono fun e W' ⟨he, bel⟩ => ?_
 subst he
 exact ⟨_, rfl, _, _, _, [], _, [], hW', trodAll_mk1 (shut_bool un4 _), (trodAll_cons_mk (Below.trod laidOut (by kernel_rfl) (of_decide_eq_true (by kernel_rfl)) h0 bel lt0) (trodAll_cons_mk (Below.trod laidOut (by kernel_rfl) (of_decide_eq_true (by kernel_rfl)) h1 bel lt1) (trodAll_cons_mk (Below.trod laidOut (by kernel_rfl) (of_decide_eq_true (by kernel_rfl)) h2 bel lt2) trodAll_mk0))), rfl, bel.frame _, fun h => by cases h⟩
theorem over : Rows.RoundAvoidsSaid :=
 OpenClaim.holds_of_wide 7 Tryz.f7 rfl rfl rfl rfl rfl rfl rfl ⟨rfl, rfl, rfl, rfl, rfl⟩ rfl rfl rfl rfl rfl (by kernel_rfl) Tryz.func7 (by kernel_rfl)
  (of_decide_eq_true (by kernel_rfl)) (by unfold Func.isWrapper; first | (rw [if_pos (by decide +kernel)]; kernel_rfl) | (rw [if_neg (by decide +kernel)]; exact ⟨rfl, rfl⟩))
  (fun os started H enc _ => lifted os started H enc)
theorem proved : Rows.RoundAvoidsCardSaid :=
 Claim7.holds_tied_plain_at .later [] [.data] true (true, "f4e39b73c9ac14d2e8fd8a12ac0a5b567e61d23b25d9e4a9d8400f1c83b80bad") false
  over (fun _ h => by cases h) (by kernel_rfl) (fun _ h => by cases h) roundAvoids_row_tie rfl ⟨rfl, rfl⟩ (by kernel_rfl) rfl
  (fun f fn hf hfn => by
   obtain rfl : f = 7 := Option.some.inj ((show Tryz.prog.funcNamed "linkboy/linkboylaw11.RoundAvoids" = some 7 by kernel_rfl).symm.trans hf) |>.symm
   obtain rfl : fn = Tryz.f7 := (Option.some.inj (Tryz.func7.symm.trans hfn)).symm
   exact ⟨by kernel_rfl, fun j t ht => by
    have hm : t ∈ [66, 3, 3] := by rw [← psL]; exact Array.mem_toList_iff.2 (Array.mem_of_getElem? ht)
    have hall : ([66, 3, 3].all fun u => !Tryz.prog.wantsStandIn u) = true := by kernel_rfl
    exact (show Tryz.prog.wantsStandIn t = false by simpa using List.all_eq_true.1 hall t hm)⟩)
  (by kernel_rfl)
#print axioms proved
end Go.Proofs.YtdeeekgohhkdbaaGreatDoor.roundAvoidsDone

/- MeterContains: with the lamps that there are Saved is the difference of what is reckoned and what is metered; it contains 0, if all verdicts agree: for any inventory. -/
import Derived.Test.YtblebiafhhhflaaGreatIg
import Derived.Test.YtblebiafhhhflaaGreatOa
namespace Go.Proofs.YtblebiafhhhflaaGreat.meterContainsDone
open Go.ChangeShapes Go.WideShapes Go.ChangeAt Go.RowKit Go.Proofs.YtblebiafhhhflaaGreat
theorem own : ownKnob Tryz.prog.godebug = none := by kernel_rfl
theorem laidOut : laidOutB Tryz.prog = true := by kernel_rfl
theorem un4 : Tryz.prog.underlying 4 = some .bool := by kernel_rfl
theorem psL : Tryz.f8.params.toList = [34, 3] := by kernel_rfl
def R8 (t : TMtTask) (index : Int) (S : SpecF) (_Fr : FreshF) (_Sq : SeqF) (Q : AV → List (List AV) → Prop) : Prop :=
 ∃ b0, S 16 [t.av, AV.int .i64 3] [] (AV.bool b0) [] ∧ ((!b0) = true → ∃ b4, S 12 [] [] (AV.bool b4) [] ∧ Q (AV.bool b4) []) ∧ ((!b0) = false → ∃ (I4 : Nat → List AV → Prop), (∃ m6, I4 m6 [AV.int .i64 0, AV.slc 3 []]) ∧ ∀ (m6 : Nat) (n7 : Int) (es8 : List AV), I4 m6 [AV.int .i64 n7, AV.slc 3 es8] → (decide (n7 < (↑(List.map TMtItem.av t.Items).length : Int)) = true → ∃ s12 n13 n14 n15 n16 n17 n18 n19, ((0 : Int) ≤ n7 ∧ (8 : Nat) = (8 : Nat) ∧ (List.map TMtItem.av t.Items)[n7.toNat]? = some (AV.agg [AV.str s12, AV.int .i64 n13, AV.int .i64 n14, AV.int .i64 n15, AV.int .i64 n16, AV.int .i64 n17, AV.int .i64 n18, AV.int .i64 n19])) ∧ elemsOf (1 : Nat) [AV.int .i64 n13] ∧ ((List.flatMap AV.cells es8).length = es8.length * 1 ∧ (es8.length + 1 + (512 : Nat)) * 41 ≤ (1125899906842624 : Nat) ∧ ones [AV.int .i64 n13] = true ∧ ones (List.flatMap AV.cells es8) = true) ∧ t.cs = t.cs ∧ ∃ es24, (es24.length = es8.length + 1 ∧ List.flatMap AV.cells es24 = List.flatMap AV.cells es8 ++ [AV.int .i64 n13]) ∧ ∃ k26, k26 < m6 ∧ I4 k26 [AV.int .i64 (IntKind.i64.wrap (n7 + 1)), AV.slc 3 es24]) ∧ (decide (n7 < (↑(List.map TMtItem.av t.Items).length : Int)) = false → ((0 : Nat) + es8.length * 1 ≤ (List.flatMap AV.cells es8).length ∧ ones (List.flatMap AV.cells es8) = true) ∧ ∃ es13, (es13.length = es8.length ∧ List.flatMap AV.cells es13 = List.drop (0 : Nat) (List.flatMap AV.cells es8) ∧ elemsA (1 : Nat) (isAggT Tryz.prog (3 : Nat)) es13) ∧ ∃ n15 n16 n17, S 17 [t.av, AV.int .i64 index, AV.slc 3 es13] [] (AV.tup [AV.agg [AV.int .i64 n15, AV.int .i64 n16], AV.int .i64 n17]) [] ∧ ∃ es19 n20, S 21 [t.av, AV.int .i64 index] [] (AV.tup [AV.slc 3 es19, AV.int .i64 n20]) [] ∧ ((n17 != 0) = true → ((n17 == n20) = true → ∃ b26, S 12 [] [] (AV.bool b26) [] ∧ Q (AV.bool b26) []) ∧ ((n17 == n20) = false → ((n17 == 4) = true → (((↑es19.length : Int) == (0 : Int)) = true → ∃ b30, S 12 [] [] (AV.bool b30) [] ∧ Q (AV.bool b30) []) ∧ (((↑es19.length : Int) == (0 : Int)) = false → Q (AV.bool false) [])) ∧ ((n17 == 4) = false → Q (AV.bool false) []))) ∧ ((n17 != 0) = false → ((n20 != 0) = true → ((n17 == n20) = true → ∃ b28, S 12 [] [] (AV.bool b28) [] ∧ Q (AV.bool b28) []) ∧ ((n17 == n20) = false → ((n17 == 4) = true → (((↑es19.length : Int) == (0 : Int)) = true → ∃ b32, S 12 [] [] (AV.bool b32) [] ∧ Q (AV.bool b32) []) ∧ (((↑es19.length : Int) == (0 : Int)) = false → Q (AV.bool false) [])) ∧ ((n17 == 4) = false → Q (AV.bool false) []))) ∧ ((n20 != 0) = false → ∃ (I26 : Nat → List AV → Prop), (∃ m28, I26 m28 [AV.bool true, AV.int .i64 0, TEncl.zero.av]) ∧ ∀ (m28 : Nat) (b29 : Bool) (n30 n31 n32 : Int), I26 m28 [AV.bool b29, AV.int .i64 n30, AV.agg [AV.int .i64 n31, AV.int .i64 n32]] → (decide (n30 < (↑es19.length : Int)) = true → ∃ n36 n37 n38 n39 n40, ((0 : Int) ≤ n30 ∧ (5 : Nat) = (5 : Nat) ∧ es19[n30.toNat]? = some (AV.agg [AV.int .i64 n36, AV.int .i64 n37, AV.int .i64 n38, AV.int .i64 n39, AV.int .i64 n40])) ∧ ∃ n42 n43 n44 n45 n46, ((0 : Int) ≤ n30 ∧ (5 : Nat) = (5 : Nat) ∧ es19[n30.toNat]? = some (AV.agg [AV.int .i64 n42, AV.int .i64 n43, AV.int .i64 n44, AV.int .i64 n45, AV.int .i64 n46])) ∧ ∃ n48 n49 n50 n51 n52, ((0 : Int) ≤ n30 ∧ (5 : Nat) = (5 : Nat) ∧ es19[n30.toNat]? = some (AV.agg [AV.int .i64 n48, AV.int .i64 n49, AV.int .i64 n50, AV.int .i64 n51, AV.int .i64 n52])) ∧ ∃ n54 n55 n56 n57 n58, ((0 : Int) ≤ n30 ∧ (5 : Nat) = (5 : Nat) ∧ es19[n30.toNat]? = some (AV.agg [AV.int .i64 n54, AV.int .i64 n55, AV.int .i64 n56, AV.int .i64 n57, AV.int .i64 n58])) ∧ (b29 = true → ∃ n62 n63 n64 n65 n66, ((0 : Int) ≤ n30 ∧ (5 : Nat) = (5 : Nat) ∧ es19[n30.toNat]? = some (AV.agg [AV.int .i64 n62, AV.int .i64 n63, AV.int .i64 n64, AV.int .i64 n65, AV.int .i64 n66])) ∧ t.cs = t.cs ∧ [AV.int .i64 n15, AV.int .i64 n16] = [AV.int .i64 n15, AV.int .i64 n16] ∧ ∃ k70, k70 < m28 ∧ I26 k70 [AV.bool (n62 == 0), AV.int .i64 (IntKind.i64.wrap (n30 + 1)), AV.agg [AV.int .i64 (IntKind.i64.wrap (IntKind.i64.wrap (n31 + n39) - n44)), AV.int .i64 (IntKind.i64.wrap (IntKind.i64.wrap (n32 + n52) - n55))]]) ∧ (b29 = false → t.cs = t.cs ∧ [AV.int .i64 n15, AV.int .i64 n16] = [AV.int .i64 n15, AV.int .i64 n16] ∧ ∃ k64, k64 < m28 ∧ I26 k64 [AV.bool false, AV.int .i64 (IntKind.i64.wrap (n30 + 1)), AV.agg [AV.int .i64 (IntKind.i64.wrap (IntKind.i64.wrap (n31 + n39) - n44)), AV.int .i64 (IntKind.i64.wrap (IntKind.i64.wrap (n32 + n52) - n55))]])) ∧ (decide (n30 < (↑es19.length : Int)) = false → ((n15 == n31 && (n16 == n32 && true)) = true → (decide (n15 ≤ n16) = true → ((!b29) = true → ∃ b42, S 12 [] [] (AV.bool b42) [] ∧ Q (AV.bool b42) []) ∧ ((!b29) = false → (decide (n15 ≤ 0) = true → (decide ((0 : Int) ≤ n16) = true → ∃ b46, S 12 [] [] (AV.bool b46) [] ∧ Q (AV.bool b46) []) ∧ (decide ((0 : Int) ≤ n16) = false → Q (AV.bool false) [])) ∧ (decide (n15 ≤ 0) = false → Q (AV.bool false) []))) ∧ (decide (n15 ≤ n16) = false → Q (AV.bool false) [])) ∧ ((n15 == n31 && (n16 == n32 && true)) = false → Q (AV.bool false) []))))))
theorem r8 (t : TMtTask) (index : Int) (S : SpecF) (Fr : FreshF) (Sq : SeqF) (Q : AV → List (List AV) → Prop) : awpF Tryz.prog (mkS Tryz.prog S Fr Sq ⟨[], [], [], [], []⟩ 0) 0 ⟨[0, 1, 2, 4, 5, 6, 7, 8, 9, 10, 11, 12, 13, 16, 22, 52, 71], [⟨5, [(6, .int .i64 0)], [(5, 3)], [], [], []⟩, ⟨15, [(12, .bool false), (13, .int .i64 0)], [], [(11, .agg [.int .i64 0, .int .i64 0])], [], []⟩], [], [(8, 999000005)]⟩ Tryz.f8 [t.av, .int .i64 index] [] Q = R8 t index S Fr Sq Q := by kernel_rfl
theorem s8 (t : TMtTask) (index : Int) (v : AV) (O : List (List AV)) (h : R8 t index (SpecOf Tryz.prog) (FreshOf Tryz.prog) (SeqOf Tryz.prog) (fun r O' => r = v ∧ O' = O)) : SpecOf Tryz.prog 8 [t.av, .int .i64 index] [] v O :=
 spec_by (boxes := []) mixed (by exact trivial) Tryz.func8 Tryz.call8 rfl rfl rfl (Nat.le_of_ble_eq_true rfl) (r8 t index (SpecOf Tryz.prog) (FreshOf Tryz.prog) (SeqOf Tryz.prog) _) h
theorem items_few {t : TMtTask} (h : t.Ok) : t.Items.length ≤ 2 ^ 41 := by
 have e : reachBytes = 140737488351232 := by rfl
 unfold TMtTask.Ok at h
 rw [e] at h
 have := h.2.2.2.1.2.2
 omega
theorem agg3 : isAggT Tryz.prog 3 = false := by kernel_rfl
theorem c8 (t : TMtTask) (ht : t.Ok) (index : Int) : Sp 8 [t.av, .int .i64 index] [] (.bool true) [] := s8 t index _ _ (by
 obtain ⟨hT, hi, _, hmn⟩ := taskOK_of ht
 have hi' := items_few ht
 unfold R8
 simp only [List.length_map]
 have awake : ∃ b : Bool, Sp 12 [] [] (.bool b) [] ∧ (AV.bool b = .bool true ∧ (([] : List (List AV)) = [] )) := ⟨_, c12, rfl, rfl⟩
 refine ⟨_, c16 t (by omega) 3, fun _ => (by obtain ⟨b, h1, h2, h3⟩ := awake; exact ⟨b, h1, h2, by trivial⟩), fun _ => ?_⟩
 refine ⟨fun m vs => ∃ k : Nat, k ≤ t.Items.length ∧ m = t.Items.length - k ∧ vs = [.int .i64 (k : Nat), .slc 3 (((t.Items.take k).map TMtItem.Lamp).map (AV.int .i64))], ⟨_, 0, by omega, rfl, rfl⟩, ?_⟩
 rintro m n7 es8 ⟨k, hk, rfl, hvk⟩
 cases hvk
 refine ⟨fun g => ?_, fun g => ?_⟩
 ·have hlt : k < t.Items.length := by have := of_decide_eq_true g; omega
  obtain ⟨x, hx, hx'⟩ := map_getN (f := TMtItem.av) hlt
  refine ⟨x.Name, x.Lamp, x.Count, x.Profile, x.Meter, x.Declared, x.From, x.Until, ⟨by omega, by trivial, hx'⟩, elI _, ⟨by rw [flatI]; simp, ?_, by trivial, by rw [flatI]; exact onesI _⟩, by trivial, (((t.Items.take (k + 1)).map TMtItem.Lamp).map (AV.int .i64)), ⟨?_, ?_⟩, t.Items.length - (k + 1), by omega, k + 1, by omega, rfl, ?_⟩
  ·rw [List.length_map, List.length_map, List.length_take]; omega
  ·rw [List.length_map, List.length_map, List.length_map, List.length_map, List.length_take, List.length_take]; omega
  ·rw [flatI, flatI, List.take_add_one, hx, List.map_append, List.map_append]; rfl
  ·rw [i64 (by omega)]; rfl
 ·have hge : t.Items.length ≤ k := by have := of_decide_eq_false g; omega
  rw [List.take_of_length_le hge]
  have k17 := c17 t hT (by omega) index (t.Items.map TMtItem.Lamp) (by rw [List.length_map]; omega)
  have k21 := c21 t hT (by omega) (by omega) index
  refine ⟨⟨by rw [flatI]; simp, by rw [flatI]; exact onesI _⟩, ((t.Items.map TMtItem.Lamp).map (AV.int .i64)), ⟨rfl, by rw [List.drop_zero], fun v hv => ?_⟩, _, _, _, k17, _, _, k21, ?_⟩
  ·rw [agg3]
   obtain ⟨n, _, rfl⟩ := List.mem_map.1 hv
   simp only [Bool.false_eq_true, if_false]; rfl
  have aw : (∃ b : Bool, SpecOf Tryz.prog 12 [] [] (.bool b) [] ∧ (AV.bool b = .bool true ∧ True)) := ⟨_, c12, rfl, trivial⟩
  by_cases hacc : accE t index 0 t.Meters.length = 0
  ·obtain ⟨hv, h0, h1⟩ := accE_zero (by omega) hacc
   obtain ⟨_, hm, _⟩ := meter_get h0 h1
   have hmv := hv.meter hm
   have hC : compareR t index = (cmpL t index, 0) := by unfold compareR; rw [if_neg (by simp [hacc])]
   rw [hC]
   simp only [List.length_map]
   have hS : savedR t index (t.Items.map TMtItem.Lamp) = if (meterAt t index).Readings.length < 2 then (⟨0, 0⟩, 4) else (((cmpL t index).foldl conS ⟨0, 0⟩), 0) := by
    unfold savedR
    rw [if_neg (by simp [hacc]), if_neg (by simp), lamps_real hv, if_neg (by simp)]
    unfold savedE
    rw [lampsT_same, savF_con]; rfl
   rw [hS]
   have hcon := contains hv.allLit hmv
   by_cases hr : (meterAt t index).Readings.length < 2
   ·rw [if_pos hr]
    have hlen : (cmpL t index).length = 0 := by rw [cmpL_len]; omega
    refine ⟨fun _ => ⟨fun q => (by cases q), fun _ => ⟨fun _ => ⟨fun _ => aw, fun q => ?_⟩, fun q => (by cases q)⟩⟩, fun q => (by cases q)⟩
    rw [hlen] at q; cases q
   ·rw [if_neg hr]
    refine ⟨fun q => (by cases q), fun _ => ⟨fun q => (by cases q), fun _ => ?_⟩⟩
    have hcl : (cmpL t index).length ≤ 30 := by rw [cmpL_len]; have := hmv.number; omega
    generalize cmpL t index = l at *
    have hfull : l.take l.length = l := List.take_of_length_le (Nat.le_refl _)
    refine ⟨fun m vs => ∃ k : Nat, k ≤ l.length ∧ m = l.length - k ∧ vs = [.bool ((l.take k).all fun v => v.Kind == 0), .int .i64 (k : Nat), ((l.take k).foldl conS ⟨0, 0⟩).av], ⟨_, 0, by omega, rfl, rfl⟩, ?_⟩
    rintro m2 b29 n30 n31 n32 ⟨k2, hk2, rfl, hv2⟩
    generalize hb : ((l.take k2).all fun v => v.Kind == 0) = b at hv2
    generalize hd : (l.take k2).foldl conS ⟨0, 0⟩ = d at hv2
    have hv3 := hv2
    simp only [TEncl.av, TEncl.cs, List.cons.injEq, AV.bool.injEq, AV.int.injEq, true_and, AV.agg.injEq, and_true] at hv3
    obtain ⟨rfl, rfl, rfl, rfl⟩ := hv3
    refine ⟨fun g2 => ?_, fun g2 => ?_⟩
    ·have hlt2 : k2 < l.length := by have := of_decide_eq_true g2; omega
     obtain ⟨x, hx, hx'⟩ := map_getN (f := TMtVerdict.av) hlt2
     have ea : (l.take (k2 + 1)).all (fun v => v.Kind == 0) = (b29 && (x.Kind == 0)) := by
      rw [List.take_add_one, hx, List.all_append, hb]; simp
     have ed : (l.take (k2 + 1)).foldl conS ⟨0, 0⟩ = conS d x := by rw [foldTake hx, hd]
     have w1 : IntKind.i64.wrap ((k2 : Int) + 1) = ((k2 + 1 : Nat) : Int) := by rw [i64 (by omega)]; omega
     refine ⟨x.Kind, x.Metered.Lo, x.Metered.Hi, x.Reckoned.Lo, x.Reckoned.Hi, ⟨by omega, by trivial, hx'⟩, x.Kind, x.Metered.Lo, x.Metered.Hi, x.Reckoned.Lo, x.Reckoned.Hi, ⟨by omega, by trivial, hx'⟩, x.Kind, x.Metered.Lo, x.Metered.Hi, x.Reckoned.Lo, x.Reckoned.Hi, ⟨by omega, by trivial, hx'⟩, x.Kind, x.Metered.Lo, x.Metered.Hi, x.Reckoned.Lo, x.Reckoned.Hi, ⟨by omega, by trivial, hx'⟩, fun h3 => ⟨x.Kind, x.Metered.Lo, x.Metered.Hi, x.Reckoned.Lo, x.Reckoned.Hi, ⟨by omega, by trivial, hx'⟩, by trivial, by trivial, l.length - (k2 + 1), by omega, k2 + 1, by omega, rfl, ?_⟩, fun h3 => ⟨by trivial, by trivial, l.length - (k2 + 1), by omega, k2 + 1, by omega, rfl, ?_⟩⟩
     ·rw [w1, ea, ed, h3, Bool.true_and]; rfl
     ·rw [w1, ea, ed, h3, Bool.false_and]; rfl
    ·have hge2 : l.length ≤ k2 := by have := of_decide_eq_false g2; omega
     rw [List.take_of_length_le hge2] at hb hd
     rw [hd] at hcon ⊢
     rw [hb] at hcon
     simp only [beq_self_eq_true, Bool.and_true, Bool.true_and]
     refine ⟨fun _ => ⟨fun _ => ⟨fun _ => aw, fun h3 => ⟨fun _ => ⟨fun _ => aw, fun q => ?_⟩, fun q => ?_⟩⟩, fun q => ?_⟩, fun q => (by cases q)⟩
     ·exact absurd (hcon.2 (by simpa using h3)).2 (of_decide_eq_false q)
     ·exact absurd (hcon.2 (by simpa using h3)).1 (of_decide_eq_false q)
     ·exact absurd hcon.1 (of_decide_eq_false q)
  ·have h1 : savedR t index (t.Items.map TMtItem.Lamp) = (⟨0, 0⟩, accE t index 0 t.Meters.length) := by unfold savedR; rw [if_pos hacc]
   have h2 : compareR t index = ([], accE t index 0 t.Meters.length) := by unfold compareR; rw [if_pos hacc]
   rw [h1, h2]
   generalize accE t index 0 t.Meters.length = e at *
   refine ⟨fun _ => ⟨fun _ => aw, fun q => ?_⟩, fun q => ?_⟩
   ·simp at q
   ·simp [hacc] at q)
set_option maxRecDepth 100000 in
theorem lifted (os : Os) (started : os.Started) (H : Type) (enc : TypeId × Value → H) :
  ReturnsInHanded {} Tryz.checked os 8 .any (Rows.meterContainsSpec.pre6 enc Tryz.prog Tryz.f8 Rows.meterContainsRow.domain false) (Rows.meterContainsSpec.post enc Tryz.prog Tryz.f8 false true false false) := by
 refine returnsInHanded_of_change_sized (C := Tryz.checked) own started (by kernel_rfl) Tryz.func8
  (ChangeSpec.witness6 (enc := enc) (C := Tryz.checked) false ⟨#[], #[.agg #[.int .i64 0, .int .i64 0, .int .i64 0, .int .i64 0, .int .i64 0, .slice none 0 0, .slice none 0 0, .slice none 0 0, .slice none 0 0, .slice none 0 0], .int .i64 0], []⟩ 8 (by kernel_rfl) (by kernel_rfl) (by kernel_rfl) (by kernel_rfl)) ?_
 intro W base args ds gs before hval0 hW hcnd hsz _
 have hval : ∀ (j : Nat) t v, Tryz.f8.params[j]? = some t → args[j]? = some v → Value.okWide Tryz.prog W .any base t v := hval0
 have hW' := hW
 obtain ⟨p, q, hA0, hV, rfl, hfz, hnd⟩ := hW
 have hA : DataW.TrodAll enc Tryz.prog W 0 (fun _ => true) true Tryz.f8.params.toList args.toList ds p := hA0
 rw [psL] at hA
 have hval : ∀ (j : Nat) t v, ([34, 3] : List TypeId)[j]? = some t → args.toList[j]? = some v → Value.okWide Tryz.prog W .any base t v := fun j t v h1 h2 => hval j t v (by rw [← Array.getElem?_toList, psL]; exact h1) (by rw [← Array.getElem?_toList]; exact h2)
 have r := hA
 obtain ⟨v0, vs0, d0, ds0, p0, q0, hargs, rfl, rfl, h0, r⟩ := trodAll_cons r
 obtain ⟨v1, vs1, d1, ds1, p1, q1, rfl, rfl, rfl, h1, r⟩ := trodAll_cons r
 obtain ⟨rfl, rfl, rfl⟩ := trodAll_nil r
 obtain rfl : args = #[v0, v1] := by cases args; simp_all
 obtain ⟨rfl, rfl⟩ := trodVars_none hV
 have lt0 : ∀ x ∈ p0, x.block < W.heap.size := by obtain ⟨m, hm⟩ := h0; exact DataW.trod_lt m _ _ _ hm
 obtain ⟨_, a0, c0, e0⟩ := arg_open (D := 8) (by kernel_rfl) h0 (fun n hn => of_decide_eq_true (List.all_eq_true.1 hsz n (DataW.weights_mem_each (j := 0) (t := 34) (by kernel_rfl) rfl n hn))) (hval 0 34 v0 rfl rfl)
 rw [show isAggT Tryz.prog 34 = true by kernel_rfl] at e0
 obtain ⟨t, rfl, ht⟩ := op34 c0
 have lt1 : ∀ x ∈ p1, x.block < W.heap.size := by obtain ⟨m, hm⟩ := h1; exact DataW.trod_lt m _ _ _ hm
 obtain ⟨_, a1, c1, e1⟩ := arg_open (D := 8) (by kernel_rfl) h1 (fun n hn => of_decide_eq_true (List.all_eq_true.1 hsz n (DataW.weights_mem_each (j := 1) (t := 3) (by kernel_rfl) rfl n hn))) (hval 1 3 v1 rfl rfl)
 rw [show isAggT Tryz.prog 3 = false by kernel_rfl] at e1
 obtain ⟨n1, rfl, hn1⟩ := cells_int (k := .i64) (by kernel_rfl) c1
 have hr : Rvs (ofHeap W) none [t.av, .int .i64 n1] #[v0, v1] := ⟨rfl, fun j => by
  match j with
  | 0 => exact e0
  | 1 => exact e1
  | j + 2 => exact .undef ..⟩
 refine (law_calls (c8 t ht n1) hr).mono fun e W' ⟨he, bel⟩ => ?_
 subst he
 exact ⟨_, rfl, _, _, _, [], _, [], hW', trodAll_mk1 (shut_bool un4 _), (trodAll_cons_mk (Below.trod laidOut (by kernel_rfl) (of_decide_eq_true (by kernel_rfl)) h0 bel lt0) (trodAll_cons_mk (Below.trod laidOut (by kernel_rfl) (of_decide_eq_true (by kernel_rfl)) h1 bel lt1) trodAll_mk0)), rfl, bel.frame _, fun h => by cases h⟩
theorem over : Rows.meterContainsRow.holds Tryz.pinned (OpenSpec.ofChange Rows.meterContainsSpec) :=
 OpenClaim.holds_of_wide 8 Tryz.f8 rfl rfl rfl rfl rfl rfl rfl ⟨rfl, rfl, rfl, rfl, rfl⟩ rfl rfl rfl rfl rfl (by kernel_rfl) Tryz.func8 (by kernel_rfl)
  (of_decide_eq_true (by kernel_rfl)) (by unfold Func.isWrapper; first | (rw [if_pos (by decide +kernel)]; kernel_rfl) | (rw [if_neg (by decide +kernel)]; exact ⟨rfl, rfl⟩))
  (fun os started H enc _ => lifted os started H enc)
theorem proved : Rows.MeterContainsSaid := over
#print axioms proved
end Go.Proofs.YtblebiafhhhflaaGreat.meterContainsDone

/- MeterSplits: with the lamps of an item in two items the energy of these two together is that of the one, for any inventory. -/
import Derived.Test.YtblebiafhhhflaaGreatIa
import Derived.Test.YtblebiafhhhflaaGreatOa
namespace Go.Proofs.YtblebiafhhhflaaGreat.meterSplitsDone
open Go.ChangeShapes Go.WideShapes Go.ChangeAt Go.RowKit Go.Proofs.YtblebiafhhhflaaGreat
theorem own : ownKnob Tryz.prog.godebug = none := by kernel_rfl
theorem laidOut : laidOutB Tryz.prog = true := by kernel_rfl
theorem un4 : Tryz.prog.underlying 4 = some .bool := by kernel_rfl
theorem psL : Tryz.f3.params.toList = [34, 36, 37] := by kernel_rfl
def R3 (t : TMtTask) (x : TAsk) (more : Int) (S : SpecF) (_Fr : FuncId → List AV → Nat → List AV → Prop) (_Sq : FuncId → List AV → List (List AV) → List (List AV) → Prop) (Q : AV → List (List AV) → Prop) : Prop :=
  ∃ n0 n1 n2, S (10 : Nat) [t.av, AV.int .i64 x.Index, AV.int .i64 x.Day] [] (AV.tup [AV.agg [AV.int .i64 n0, AV.int .i64 n1], AV.int .i64 n2]) [] ∧ ∃ n4, S (11 : Nat) [t.av, AV.int .i64 x.Index] [] (AV.int .i64 n4) [] ∧ ((n2 != (0 : Int)) = true → ∃ b8, S (12 : Nat) [] [] (AV.bool b8) [] ∧ Q (AV.bool b8) []) ∧ ((n2 != (0 : Int)) = false → (decide (n4 < (2 : Int)) = true → ∃ b10, S (12 : Nat) [] [] (AV.bool b10) [] ∧ Q (AV.bool b10) []) ∧ (decide (n4 < (2 : Int)) = false → (decide ((↑(List.map TMtItem.av t.Items).length : Int) ≥ (20 : Int)) = true → ∃ b12, S (12 : Nat) [] [] (AV.bool b12) [] ∧ Q (AV.bool b12) []) ∧ (decide ((↑(List.map TMtItem.av t.Items).length : Int) ≥ (20 : Int)) = false → IntKind.i64.wrap (n4 - (1 : Int)) ≠ (0 : Int) ∧ elemsOf (8 : Nat) (List.map TMtItem.av t.Items) ∧ ((([] : List AV) = [] ∨ (0 : Nat) < (List.map TMtItem.av t.Items).length) ∧ ((0 : Nat) + (List.map TMtItem.av t.Items).length + (512 : Nat)) * (361 : Nat) ≤ (1125899906842624 : Nat) ∧ elemsOf (8 : Nat) [] ∧ ones (List.flatMap AV.cells (List.map TMtItem.av t.Items)) = true ∧ ones [] = true) ∧ ((0 : Int) ≤ x.Index ∧ x.Index < (↑((0 : Nat) + (List.map TMtItem.av t.Items).length) : Int) ∧ (8 : Nat) = (8 : Nat)) ∧ (0 : Nat) + x.Index.toNat * (8 : Nat) + (2 : Nat) + (1 : Nat) ≤ ([] ++ List.flatMap AV.cells (List.map TMtItem.av t.Items)).length ∧ ∃ s17 n18 n19 n20 n21 n22 n23 n24, ((0 : Int) ≤ x.Index ∧ (8 : Nat) = (8 : Nat) ∧ (List.map TMtItem.av t.Items)[x.Index.toNat]? = some (AV.agg [AV.str s17, AV.int .i64 n18, AV.int .i64 n19, AV.int .i64 n20, AV.int .i64 n21, AV.int .i64 n22, AV.int .i64 n23, AV.int .i64 n24])) ∧ elemsOf (8 : Nat) [AV.agg [AV.str (ByteArray.mk #[(122 : UInt8), (122 : UInt8), (45 : UInt8), (116 : UInt8), (104 : UInt8), (101 : UInt8), (45 : UInt8), (111 : UInt8), (116 : UInt8), (104 : UInt8), (101 : UInt8), (114 : UInt8), (45 : UInt8), (112 : UInt8), (97 : UInt8), (114 : UInt8), (116 : UInt8)]), AV.int .i64 n18, AV.int .i64 (IntKind.i64.wrap ((1 : Int) + (IntKind.i64.wrap more).tmod (IntKind.i64.wrap (n4 - (1 : Int))))), AV.int .i64 n20, AV.int .i64 n21, AV.int .i64 n22, AV.int .i64 n23, AV.int .i64 n24]] ∧ ((setCells ([] ++ List.flatMap AV.cells (List.map TMtItem.av t.Items)) ((0 : Nat) + x.Index.toNat * (8 : Nat) + (2 : Nat)) [AV.int .i64 (IntKind.i64.wrap (n4 - IntKind.i64.wrap ((1 : Int) + (IntKind.i64.wrap more).tmod (IntKind.i64.wrap (n4 - (1 : Int))))))]).length = ((0 : Nat) + (List.map TMtItem.av t.Items).length) * (8 : Nat) ∧ ((0 : Nat) + (List.map TMtItem.av t.Items).length + (1 : Nat) + (512 : Nat)) * (361 : Nat) ≤ (1125899906842624 : Nat) ∧ ones [AV.str (ByteArray.mk #[(122 : UInt8), (122 : UInt8), (45 : UInt8), (116 : UInt8), (104 : UInt8), (101 : UInt8), (45 : UInt8), (111 : UInt8), (116 : UInt8), (104 : UInt8), (101 : UInt8), (114 : UInt8), (45 : UInt8), (112 : UInt8), (97 : UInt8), (114 : UInt8), (116 : UInt8)]), AV.int .i64 n18, AV.int .i64 (IntKind.i64.wrap ((1 : Int) + (IntKind.i64.wrap more).tmod (IntKind.i64.wrap (n4 - (1 : Int))))), AV.int .i64 n20, AV.int .i64 n21, AV.int .i64 n22, AV.int .i64 n23, AV.int .i64 n24] = true ∧ ones (setCells ([] ++ List.flatMap AV.cells (List.map TMtItem.av t.Items)) ((0 : Nat) + x.Index.toNat * (8 : Nat) + (2 : Nat)) [AV.int .i64 (IntKind.i64.wrap (n4 - IntKind.i64.wrap ((1 : Int) + (IntKind.i64.wrap more).tmod (IntKind.i64.wrap (n4 - (1 : Int))))))]) = true) ∧ (0 : Nat) + ((0 : Nat) + (List.map TMtItem.av t.Items).length + (1 : Nat)) * (8 : Nat) ≤ (setCells ([] ++ List.flatMap AV.cells (List.map TMtItem.av t.Items)) ((0 : Nat) + x.Index.toNat * (8 : Nat) + (2 : Nat)) [AV.int .i64 (IntKind.i64.wrap (n4 - IntKind.i64.wrap ((1 : Int) + (IntKind.i64.wrap more).tmod (IntKind.i64.wrap (n4 - (1 : Int))))))] ++ [AV.str (ByteArray.mk #[(122 : UInt8), (122 : UInt8), (45 : UInt8), (116 : UInt8), (104 : UInt8), (101 : UInt8), (45 : UInt8), (111 : UInt8), (116 : UInt8), (104 : UInt8), (101 : UInt8), (114 : UInt8), (45 : UInt8), (112 : UInt8), (97 : UInt8), (114 : UInt8), (116 : UInt8)]), AV.int .i64 n18, AV.int .i64 (IntKind.i64.wrap ((1 : Int) + (IntKind.i64.wrap more).tmod (IntKind.i64.wrap (n4 - (1 : Int))))), AV.int .i64 n20, AV.int .i64 n21, AV.int .i64 n22, AV.int .i64 n23, AV.int .i64 n24]).length ∧ ∃ es29, (es29.length = (0 : Nat) + (List.map TMtItem.av t.Items).length + (1 : Nat) ∧ List.flatMap AV.cells es29 = List.drop (0 : Nat) (setCells ([] ++ List.flatMap AV.cells (List.map TMtItem.av t.Items)) ((0 : Nat) + x.Index.toNat * (8 : Nat) + (2 : Nat)) [AV.int .i64 (IntKind.i64.wrap (n4 - IntKind.i64.wrap ((1 : Int) + (IntKind.i64.wrap more).tmod (IntKind.i64.wrap (n4 - (1 : Int))))))] ++ [AV.str (ByteArray.mk #[(122 : UInt8), (122 : UInt8), (45 : UInt8), (116 : UInt8), (104 : UInt8), (101 : UInt8), (45 : UInt8), (111 : UInt8), (116 : UInt8), (104 : UInt8), (101 : UInt8), (114 : UInt8), (45 : UInt8), (112 : UInt8), (97 : UInt8), (114 : UInt8), (116 : UInt8)]), AV.int .i64 n18, AV.int .i64 (IntKind.i64.wrap ((1 : Int) + (IntKind.i64.wrap more).tmod (IntKind.i64.wrap (n4 - (1 : Int))))), AV.int .i64 n20, AV.int .i64 n21, AV.int .i64 n22, AV.int .i64 n23, AV.int .i64 n24]) ∧ elemsA (8 : Nat) (isAggT Tryz.prog (44 : Nat)) es29) ∧ ∃ n31 n32 n33, S (10 : Nat) [AV.agg [AV.int .i64 t.City.Lat, AV.int .i64 t.City.Lon, AV.int .i64 t.City.Zone, AV.int .i64 t.City.Altitude.Lo, AV.int .i64 t.City.Altitude.Hi, AV.slc (3 : Nat) (List.map TLmTable.av t.Catalog.Tables), AV.slc (3 : Nat) (List.map TLmLamp.av t.Catalog.Lamps), AV.slc (3 : Nat) (List.map TMtProfile.av t.Profiles), AV.slc (3 : Nat) es29, AV.slc (3 : Nat) (List.map TMtMeter.av t.Meters)], AV.int .i64 x.Index, AV.int .i64 x.Day] [] (AV.tup [AV.agg [AV.int .i64 n31, AV.int .i64 n32], AV.int .i64 n33]) [] ∧ ∃ n35 n36 n37, S (10 : Nat) [AV.agg [AV.int .i64 t.City.Lat, AV.int .i64 t.City.Lon, AV.int .i64 t.City.Zone, AV.int .i64 t.City.Altitude.Lo, AV.int .i64 t.City.Altitude.Hi, AV.slc (3 : Nat) (List.map TLmTable.av t.Catalog.Tables), AV.slc (3 : Nat) (List.map TLmLamp.av t.Catalog.Lamps), AV.slc (3 : Nat) (List.map TMtProfile.av t.Profiles), AV.slc (3 : Nat) es29, AV.slc (3 : Nat) (List.map TMtMeter.av t.Meters)], AV.int .i64 (↑((0 : Nat) + (List.map TMtItem.av t.Items).length) : Int), AV.int .i64 x.Day] [] (AV.tup [AV.agg [AV.int .i64 n35, AV.int .i64 n36], AV.int .i64 n37]) [] ∧ ((n33 == (5 : Int)) = true → ((n37 == n33) = true → ∃ b43, S (12 : Nat) [] [] (AV.bool b43) [] ∧ Q (AV.bool b43) []) ∧ ((n37 == n33) = false → ((n33 == (0 : Int)) = true → ((n37 == (0 : Int)) = true → ((n0 == IntKind.i64.wrap (n31 + n35)) = true → ((n1 == IntKind.i64.wrap (n32 + n36)) = true → ∃ b51, S (12 : Nat) [] [] (AV.bool b51) [] ∧ Q (AV.bool b51) []) ∧ ((n1 == IntKind.i64.wrap (n32 + n36)) = false → Q (AV.bool false) [])) ∧ ((n0 == IntKind.i64.wrap (n31 + n35)) = false → Q (AV.bool false) [])) ∧ ((n37 == (0 : Int)) = false → Q (AV.bool false) [])) ∧ ((n33 == (0 : Int)) = false → Q (AV.bool false) []))) ∧ ((n33 == (5 : Int)) = false → ((n33 == (0 : Int)) = true → ((n37 == (0 : Int)) = true → ((n0 == IntKind.i64.wrap (n31 + n35)) = true → ((n1 == IntKind.i64.wrap (n32 + n36)) = true → ∃ b49, S (12 : Nat) [] [] (AV.bool b49) [] ∧ Q (AV.bool b49) []) ∧ ((n1 == IntKind.i64.wrap (n32 + n36)) = false → Q (AV.bool false) [])) ∧ ((n0 == IntKind.i64.wrap (n31 + n35)) = false → Q (AV.bool false) [])) ∧ ((n37 == (0 : Int)) = false → Q (AV.bool false) [])) ∧ ((n33 == (0 : Int)) = false → Q (AV.bool false) [])))))
theorem r3 (t : TMtTask) (x : TAsk) (more : Int) (S : SpecF) (Fr : FuncId → List AV → Nat → List AV → Prop) (Sq : FuncId → List AV → List (List AV) → List (List AV) → Prop) (Q : AV → List (List AV) → Prop) : awpF Tryz.prog (mkS Tryz.prog S Fr Sq ⟨[], [], [], [], []⟩ 0) 0 ⟨[0, 1, 2, 3, 4, 6, 7, 8, 9, 10, 11, 12, 13, 14, 15, 40, 98], [], [], [(11, 2008000003)]⟩ Tryz.f3 [t.av, x.av, .int .u16 more] [] Q = R3 t x more S Fr Sq Q := by kernel_rfl
theorem s3 (t : TMtTask) (x : TAsk) (more : Int) (v : AV) (O : List (List AV)) (h : R3 t x more (SpecOf Tryz.prog) (FreshOf Tryz.prog) (SeqOf Tryz.prog) (fun r O' => r = v ∧ O' = O)) : SpecOf Tryz.prog 3 [t.av, x.av, .int .u16 more] [] v O :=
  spec_by (boxes := []) mixed (by exact trivial) Tryz.func3 Tryz.call3 rfl rfl rfl (Nat.le_of_ble_eq_true rfl) (r3 t x more (SpecOf Tryz.prog) (FreshOf Tryz.prog) (SeqOf Tryz.prog) _) h
theorem isAgg44 : isAggT Tryz.prog 44 = true := by kernel_rfl
theorem flatM (l : List TMtItem) : elemsOf 8 (l.map TMtItem.av) ∧ ((l.map TMtItem.av).flatMap AV.cells).length = l.length * 8 ∧ ones ((l.map TMtItem.av).flatMap AV.cells) = true :=
  have h := flat_map (f := TMtItem.av) (g := TMtItem.cs) (k := 8) (fun _ => rfl) (fun _ => rfl) (fun _ => rfl) l
  ⟨h.1, h.2.1, h.2.2.1⟩
theorem c3 (t : TMtTask) (ht : t.Ok) (x : TAsk) (more : Int) (hm : InK .u16 more) : Sp 3 [t.av, x.av, .int .u16 more] [] (.bool true) [] := s3 t x more _ _ (by
  obtain ⟨hT, hi, _, _⟩ := taskOK_of ht
  have hmore := u16_of hm
  unfold R3
  rw [List.length_map]
  simp only [List.nil_append, Nat.zero_add]
  have k10 := c10 t hT (by omega) x.Index x.Day
  have hs := fun (h1 : t.Items.length < 20) (h2 : (energyR t x.Index x.Day).2 = 0) k => splits (t := t) (item := x.Index) (day := x.Day) (k := k) h1 h2
  refine ⟨_, _, _, k10, _, c11 t x.Index, fun h => ⟨_, c12, by trivial, by trivial⟩, fun h => ⟨fun h1 => ⟨_, c12, by trivial, by trivial⟩, fun h1 => ⟨fun h2 => ⟨_, c12, by trivial, by trivial⟩, fun h2 => ?_⟩⟩⟩
  have h : (energyR t x.Index x.Day).2 = 0 := by simpa using h
  have h1 := of_decide_eq_false h1
  have h2 := of_decide_eq_false h2
  have h2 : t.Items.length < 20 := by omega
  obtain ⟨hv, g0, g1, _, _⟩ := energyR_ok (by omega) h
  obtain ⟨hg, hmem, hx⟩ := item_get g0 g1
  have hc : countR t x.Index = (itemAt t x.Index).Count := by unfold countR; rw [if_neg (by omega), if_neg (by omega)]
  have hs := fun k => hs h2 h k
  rw [hc] at h1 ⊢
  have hcnt := (hv.item hmem).count
  generalize itemAt t x.Index = y at *
  have e1 : IntKind.i64.wrap (y.Count - 1) = y.Count - 1 := i64 (by omega)
  have e2 : IntKind.i64.wrap more = more := i64 (by omega)
  have e3 : more.tmod (y.Count - 1) = more % (y.Count - 1) := Int.tmod_eq_emod_of_nonneg hmore.1
  have b0 : 0 ≤ more % (y.Count - 1) := Int.emod_nonneg _ (by omega)
  have b1 : more % (y.Count - 1) < y.Count - 1 := Int.emod_lt_of_pos _ (by omega)
  have e4 : IntKind.i64.wrap (1 + more % (y.Count - 1)) = 1 + more % (y.Count - 1) := i64 (by omega)
  rw [e1, e2, e3, e4]
  have hs := hs (1 + more % (y.Count - 1)) (by omega) (by omega)
  generalize hk : 1 + more % (y.Count - 1) = k at *
  have e5 : IntKind.i64.wrap (y.Count - k) = y.Count - k := i64 (by omega)
  rw [e5]
  have hset : setCells (List.flatMap AV.cells (t.Items.map TMtItem.av)) (x.Index.toNat * 8 + 2) [.int .i64 (y.Count - k)] = ((t.Items.set x.Index.toNat { y with Count := y.Count - k }).map TMtItem.av).flatMap AV.cells :=
    setCells_at (f := TMtItem.av) (g := TMtItem.cs) (fun _ => rfl) (fun _ => rfl) hg (by decide) rfl
  have hF := flatM t.Items
  have hF2 := flatM (t.Items.set x.Index.toNat { y with Count := y.Count - k })
  rw [hset]
  have hl := hF2.2.1
  rw [List.length_set] at hl
  refine ⟨by omega, hF.1, ⟨.inl (by trivial), by omega, fun v hv => (by cases hv), hF.2.2, by trivial⟩, ⟨g0, by omega, by trivial⟩, ?_, y.Name, y.Lamp, y.Count, y.Profile, y.Meter, y.Declared, y.From, y.Until, ⟨g0, by trivial, hx⟩, fun v hv => (by rw [List.mem_singleton] at hv; rw [hv]; rfl), ⟨hl, by omega, by trivial, hF2.2.2⟩, ?_, ((splitT t x.Index.toNat y k).Items).map TMtItem.av, ⟨?_, ?_, ?_⟩, _, _, _, c10 (splitT t x.Index.toNat y k) ?_ ?_ x.Index x.Day, _, _, _, c10 (splitT t x.Index.toNat y k) ?_ ?_ t.Items.length x.Day, ?_⟩
  · rw [hF.2.1]; omega
  · rw [List.length_append, hl]; simp only [List.length_cons, List.length_nil]; omega
  · simp [splitT]
  · rw [List.drop_zero]; unfold splitT; rw [List.map_append, List.flatMap_append]; rfl
  · rw [isAgg44]; exact elemsA_map (f := TMtItem.av) (g := TMtItem.cs) (fun _ => rfl) (fun _ => rfl) _
  · refine ⟨hT.cat, hT.prn, hT.men, fun z hz => ?_, hT.stl⟩
    have hz : z ∈ t.Items.set x.Index.toNat { y with Count := y.Count - k } ++ [{ y with Name := zzS, Count := k }] := hz
    rcases List.mem_append.1 hz with hz | hz
    · rcases List.mem_or_eq_of_mem_set hz with hz | rfl
      · exact hT.itn z hz
      · exact hT.itn y hmem
    · rw [List.mem_singleton] at hz; subst hz; show zzS.size ≤ _; decide
  · simp [splitT]; omega
  · refine ⟨hT.cat, hT.prn, hT.men, fun z hz => ?_, hT.stl⟩
    have hz : z ∈ t.Items.set x.Index.toNat { y with Count := y.Count - k } ++ [{ y with Name := zzS, Count := k }] := hz
    rcases List.mem_append.1 hz with hz | hz
    · rcases List.mem_or_eq_of_mem_set hz with hz | rfl
      · exact hT.itn z hz
      · exact hT.itn y hmem
    · rw [List.mem_singleton] at hz; subst hz; show zzS.size ≤ _; decide
  · simp [splitT]; omega
  · rcases hs with ⟨s1, s2⟩ | ⟨s1, s2, s3, s4⟩
    · rw [s1, s2]
      exact ⟨fun _ => ⟨fun _ => ⟨_, c12, by trivial, by trivial⟩, fun q => (by cases q)⟩, fun q => (by cases q)⟩
    · rw [s1, s2, ← s3, ← s4]
      refine ⟨fun q => (by cases q), fun _ => ⟨fun _ => ⟨fun _ => ⟨fun _ => ⟨fun _ => ⟨_, c12, by trivial, by trivial⟩, fun q => ?_⟩, fun q => ?_⟩, fun q => (by cases q)⟩, fun q => (by cases q)⟩⟩
      · simp at q
      · simp at q)
set_option maxRecDepth 100000 in
theorem lifted (os : Os) (started : os.Started) (H : Type) (enc : TypeId × Value → H) :
    ReturnsInHanded {} Tryz.checked os 3 .any (Rows.meterSplitsSpec.pre6 enc Tryz.prog Tryz.f3 Rows.meterSplitsRow.domain false) (Rows.meterSplitsSpec.post enc Tryz.prog Tryz.f3 false true false false) := by
  refine returnsInHanded_of_change_sized (C := Tryz.checked) own started (by kernel_rfl) Tryz.func3
    (ChangeSpec.witness6 (enc := enc) (C := Tryz.checked) false ⟨#[], #[.agg #[.int .i64 0, .int .i64 0, .int .i64 0, .int .i64 0, .int .i64 0, .slice none 0 0, .slice none 0 0, .slice none 0 0, .slice none 0 0, .slice none 0 0], .agg #[.int .i64 0, .int .i64 0, .int .i64 0], .int .u16 0], []⟩ 8 (by kernel_rfl) (by kernel_rfl) (by kernel_rfl) (by kernel_rfl)) ?_
  intro W base args ds gs before hval0 hW hcnd hsz _
  have hval : ∀ (j : Nat) t v, Tryz.f3.params[j]? = some t → args[j]? = some v → Value.okWide Tryz.prog W .any base t v := hval0
  have hW' := hW
  obtain ⟨p, q, hA0, hV, rfl, hfz, hnd⟩ := hW
  have hA : DataW.TrodAll enc Tryz.prog W 0 (fun _ => true) true Tryz.f3.params.toList args.toList ds p := hA0
  rw [psL] at hA
  have hval : ∀ (j : Nat) t v, ([34, 36, 37] : List TypeId)[j]? = some t → args.toList[j]? = some v → Value.okWide Tryz.prog W .any base t v := fun j t v h1 h2 => hval j t v (by rw [← Array.getElem?_toList, psL]; exact h1) (by rw [← Array.getElem?_toList]; exact h2)
  have r := hA
  obtain ⟨v0, vs0, d0, ds0, p0, q0, hargs, rfl, rfl, h0, r⟩ := trodAll_cons r
  obtain ⟨v1, vs1, d1, ds1, p1, q1, rfl, rfl, rfl, h1, r⟩ := trodAll_cons r
  obtain ⟨v2, vs2, d2, ds2, p2, q2, rfl, rfl, rfl, h2, r⟩ := trodAll_cons r
  obtain ⟨rfl, rfl, rfl⟩ := trodAll_nil r
  obtain rfl : args = #[v0, v1, v2] := by cases args; simp_all
  obtain ⟨rfl, rfl⟩ := trodVars_none hV
  have lt0 : ∀ x ∈ p0, x.block < W.heap.size := by obtain ⟨m, hm⟩ := h0; exact DataW.trod_lt m _ _ _ hm
  obtain ⟨_, a0, c0, e0⟩ := arg_open (D := 8) (by kernel_rfl) h0 (fun n hn => of_decide_eq_true (List.all_eq_true.1 hsz n (DataW.weights_mem_each (j := 0) (t := 34) (by kernel_rfl) rfl n hn))) (hval 0 34 v0 rfl rfl)
  rw [show isAggT Tryz.prog 34 = true by kernel_rfl] at e0
  obtain ⟨t, rfl, ht⟩ := op34 c0
  have lt1 : ∀ x ∈ p1, x.block < W.heap.size := by obtain ⟨m, hm⟩ := h1; exact DataW.trod_lt m _ _ _ hm
  obtain ⟨_, a1, c1, e1⟩ := arg_open (D := 8) (by kernel_rfl) h1 (fun n hn => of_decide_eq_true (List.all_eq_true.1 hsz n (DataW.weights_mem_each (j := 1) (t := 36) (by kernel_rfl) rfl n hn))) (hval 1 36 v1 rfl rfl)
  rw [show isAggT Tryz.prog 36 = true by kernel_rfl] at e1
  obtain ⟨x, rfl, hx⟩ := op36 c1
  have lt2 : ∀ x ∈ p2, x.block < W.heap.size := by obtain ⟨m, hm⟩ := h2; exact DataW.trod_lt m _ _ _ hm
  obtain ⟨_, a2, c2, e2⟩ := arg_open (D := 8) (by kernel_rfl) h2 (fun n hn => of_decide_eq_true (List.all_eq_true.1 hsz n (DataW.weights_mem_each (j := 2) (t := 37) (by kernel_rfl) rfl n hn))) (hval 2 37 v2 rfl rfl)
  rw [show isAggT Tryz.prog 37 = false by kernel_rfl] at e2
  obtain ⟨n2, rfl, hn2⟩ := cells_int (k := .u16) (by kernel_rfl) c2
  have hr : Rvs (ofHeap W) none [t.av, x.av, .int .u16 n2] #[v0, v1, v2] := ⟨rfl, fun j => by
    match j with
    | 0 => exact e0
    | 1 => exact e1
    | 2 => exact e2
    | j + 3 => exact .undef ..⟩
  refine (law_calls (c3 t ht x n2 hn2) hr).mono fun e W' ⟨he, bel⟩ => ?_
  subst he
  exact ⟨_, rfl, _, _, _, [], _, [], hW', trodAll_mk1 (shut_bool un4 _), (trodAll_cons_mk (Below.trod laidOut (by kernel_rfl) (of_decide_eq_true (by kernel_rfl)) h0 bel lt0) (trodAll_cons_mk (Below.trod laidOut (by kernel_rfl) (of_decide_eq_true (by kernel_rfl)) h1 bel lt1) (trodAll_cons_mk (Below.trod laidOut (by kernel_rfl) (of_decide_eq_true (by kernel_rfl)) h2 bel lt2) trodAll_mk0))), rfl, bel.frame _, fun h => by cases h⟩
theorem over : Rows.meterSplitsRow.holds Tryz.pinned (OpenSpec.ofChange Rows.meterSplitsSpec) :=
  OpenClaim.holds_of_wide 3 Tryz.f3 rfl rfl rfl rfl rfl rfl rfl ⟨rfl, rfl, rfl, rfl, rfl⟩ rfl rfl rfl rfl rfl (by kernel_rfl) Tryz.func3 (by kernel_rfl)
    (of_decide_eq_true (by kernel_rfl)) (by unfold Func.isWrapper; first | (rw [if_pos (by decide +kernel)]; kernel_rfl) | (rw [if_neg (by decide +kernel)]; exact ⟨rfl, rfl⟩))
    (fun os started H enc _ => lifted os started H enc)
theorem proved : Rows.MeterSplitsSaid := over
#print axioms proved
end Go.Proofs.YtblebiafhhhflaaGreat.meterSplitsDone

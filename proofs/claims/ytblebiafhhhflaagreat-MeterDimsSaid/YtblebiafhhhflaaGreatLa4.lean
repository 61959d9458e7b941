/- MeterDims: with a lower level of a step no end of the energy of a day becomes greater, for any inventory and item. -/
import Derived.Test.YtblebiafhhhflaaGreatId
import Derived.Test.YtblebiafhhhflaaGreatOa
namespace Go.Proofs.YtblebiafhhhflaaGreat.meterDimsDone
open Go.ChangeShapes Go.WideShapes Go.ChangeAt Go.RowKit Go.Proofs.YtblebiafhhhflaaGreat
theorem own : ownKnob Tryz.prog.godebug = none := by kernel_rfl
theorem laidOut : laidOutB Tryz.prog = true := by kernel_rfl
theorem un4 : Tryz.prog.underlying 4 = some .bool := by kernel_rfl
theorem psL : Tryz.f4.params.toList = [34, 36, 46] := by kernel_rfl
theorem op46 {d : Nat} {cs : List AV} (h : CellsT Tryz.prog d 46 cs) : ∃ x : Int × Int, cs = [.int .u8 x.1, .int .u8 x.2] ∧ InK .u8 x.1 ∧ InK .u8 x.2 := by
  obtain ⟨d1, ps, rfl, hl, hp⟩ := cells_array (n := 2) (e := 5) (by kernel_rfl) h
  match ps, hl, hp with
  | [p0, p1], _, hp =>
    obtain ⟨x0, rfl, h0⟩ := cells_int (k := .u8) (by kernel_rfl) (hp p0 (by simp))
    obtain ⟨x1, rfl, h1⟩ := cells_int (k := .u8) (by kernel_rfl) (hp p1 (by simp))
    exact ⟨(x0, x1), rfl, h0, h1⟩
def R4 (t : TMtTask) (x : TAsk) (by'0 : Int) (by'1 : Int) (S : SpecF) (_Fr : FreshF) (_Sq : SeqF) (Q : AV → List (List AV) → Prop) : Prop :=
  ∃ n0 n1 n2, S 10 [t.av, AV.int .i64 x.Index, AV.int .i64 x.Day] [] (AV.tup [AV.agg [AV.int .i64 n0, AV.int .i64 n1], AV.int .i64 n2]) [] ∧ ((n2 != (0 : Int)) = true → ∃ b6, S 12 [] [] (AV.bool b6) [] ∧ Q (AV.bool b6) []) ∧ ((n2 != (0 : Int)) = false → ∃ b6, S 13 [t.av, AV.int .i64 x.Index] [] (AV.bool b6) [] ∧ ((!b6) = true → ∃ b10, S 12 [] [] (AV.bool b10) [] ∧ Q (AV.bool b10) []) ∧ ((!b6) = false → ∃ s10 n11 n12 n13 n14 n15 n16 n17, ((0 : Int) ≤ x.Index ∧ (8 : Nat) = (8 : Nat) ∧ (List.map TMtItem.av t.Items)[x.Index.toNat]? = some (AV.agg [AV.str s10, AV.int .i64 n11, AV.int .i64 n12, AV.int .i64 n13, AV.int .i64 n14, AV.int .i64 n15, AV.int .i64 n16, AV.int .i64 n17])) ∧ ∃ s19 es20, ((0 : Int) ≤ n13 ∧ (2 : Nat) = (2 : Nat) ∧ (List.map TMtProfile.av t.Profiles)[n13.toNat]? = some (AV.agg [AV.str s19, AV.slc 3 es20])) ∧ elemsOf (2 : Nat) es20 ∧ ((([] : List AV) = [] ∨ (0 : Nat) < es20.length) ∧ ((0 : Nat) + es20.length + (512 : Nat)) * (81 : Nat) ≤ (1125899906842624 : Nat) ∧ elemsOf (2 : Nat) [] ∧ ones (List.flatMap AV.cells es20) = true ∧ ones [] = true) ∧ (↑((0 : Nat) + es20.length) : Int) ≠ (0 : Int) ∧ ((0 : Int) ≤ (IntKind.i64.wrap by'0).tmod (↑((0 : Nat) + es20.length) : Int) ∧ (IntKind.i64.wrap by'0).tmod (↑((0 : Nat) + es20.length) : Int) < (↑((0 : Nat) + es20.length) : Int) ∧ (2 : Nat) = (2 : Nat)) ∧ ∃ n26, Option.map AV.norm (partA Tryz.prog (3 : Nat) ([] ++ List.flatMap AV.cells es20) ((0 : Nat) + ((IntKind.i64.wrap by'0).tmod (↑((0 : Nat) + es20.length) : Int)).toNat * (2 : Nat) + (1 : Nat))) = some (AV.int .i64 n26) ∧ ((0 : Int) ≤ (IntKind.i64.wrap by'0).tmod (↑((0 : Nat) + es20.length) : Int) ∧ (IntKind.i64.wrap by'0).tmod (↑((0 : Nat) + es20.length) : Int) < (↑((0 : Nat) + es20.length) : Int) ∧ (2 : Nat) = (2 : Nat)) ∧ (0 : Nat) + ((IntKind.i64.wrap by'0).tmod (↑((0 : Nat) + es20.length) : Int)).toNat * (2 : Nat) + (1 : Nat) + (1 : Nat) ≤ ([] ++ List.flatMap AV.cells es20).length ∧ elemsOf (2 : Nat) (List.map TMtProfile.av t.Profiles) ∧ ((([] : List AV) = [] ∨ (0 : Nat) < (List.map TMtProfile.av t.Profiles).length) ∧ ((0 : Nat) + (List.map TMtProfile.av t.Profiles).length + (512 : Nat)) * (201 : Nat) ≤ (1125899906842624 : Nat) ∧ elemsOf (2 : Nat) [] ∧ ones (List.flatMap AV.cells (List.map TMtProfile.av t.Profiles)) = true ∧ ones [] = true) ∧ (0 : Nat) + ((0 : Nat) + es20.length) * (2 : Nat) ≤ (setCells ([] ++ List.flatMap AV.cells es20) ((0 : Nat) + ((IntKind.i64.wrap by'0).tmod (↑((0 : Nat) + es20.length) : Int)).toNat * (2 : Nat) + (1 : Nat)) [AV.int .i64 (if IntKind.i64.wrap (n26 - IntKind.i64.wrap ((4 : Int) * IntKind.i64.wrap by'1)) > (0 : Int) then IntKind.i64.wrap (n26 - IntKind.i64.wrap ((4 : Int) * IntKind.i64.wrap by'1)) else (0 : Int))]).length ∧ ∃ es33, (es33.length = (0 : Nat) + es20.length ∧ List.flatMap AV.cells es33 = List.drop (0 : Nat) (setCells ([] ++ List.flatMap AV.cells es20) ((0 : Nat) + ((IntKind.i64.wrap by'0).tmod (↑((0 : Nat) + es20.length) : Int)).toNat * (2 : Nat) + (1 : Nat)) [AV.int .i64 (if IntKind.i64.wrap (n26 - IntKind.i64.wrap ((4 : Int) * IntKind.i64.wrap by'1)) > (0 : Int) then IntKind.i64.wrap (n26 - IntKind.i64.wrap ((4 : Int) * IntKind.i64.wrap by'1)) else (0 : Int))]) ∧ elemsA (2 : Nat) (isAggT Tryz.prog (52 : Nat)) es33) ∧ ((0 : Int) ≤ n13 ∧ n13 < (↑((0 : Nat) + (List.map TMtProfile.av t.Profiles).length) : Int) ∧ (2 : Nat) = (2 : Nat)) ∧ (0 : Nat) + n13.toNat * (2 : Nat) + (1 : Nat) + (1 : Nat) ≤ ([] ++ List.flatMap AV.cells (List.map TMtProfile.av t.Profiles)).length ∧ (0 : Nat) + ((0 : Nat) + (List.map TMtProfile.av t.Profiles).length) * (2 : Nat) ≤ (setCells ([] ++ List.flatMap AV.cells (List.map TMtProfile.av t.Profiles)) ((0 : Nat) + n13.toNat * (2 : Nat) + (1 : Nat)) [AV.slc 3 es33]).length ∧ ∃ es38, (es38.length = (0 : Nat) + (List.map TMtProfile.av t.Profiles).length ∧ List.flatMap AV.cells es38 = List.drop (0 : Nat) (setCells ([] ++ List.flatMap AV.cells (List.map TMtProfile.av t.Profiles)) ((0 : Nat) + n13.toNat * (2 : Nat) + (1 : Nat)) [AV.slc 3 es33]) ∧ elemsA (2 : Nat) (isAggT Tryz.prog (50 : Nat)) es38) ∧ ∃ n40 n41 n42, S 10 [AV.agg [AV.int .i64 t.City.Lat, AV.int .i64 t.City.Lon, AV.int .i64 t.City.Zone, AV.int .i64 t.City.Altitude.Lo, AV.int .i64 t.City.Altitude.Hi, AV.slc 3 (List.map TLmTable.av t.Catalog.Tables), AV.slc 3 (List.map TLmLamp.av t.Catalog.Lamps), AV.slc 3 es38, AV.slc 3 (List.map TMtItem.av t.Items), AV.slc 3 (List.map TMtMeter.av t.Meters)], AV.int .i64 x.Index, AV.int .i64 x.Day] [] (AV.tup [AV.agg [AV.int .i64 n40, AV.int .i64 n41], AV.int .i64 n42]) [] ∧ ((n42 == (0 : Int)) = true → (decide (n40 ≤ n0) = true → (decide (n41 ≤ n1) = true → ∃ b50, S 12 [] [] (AV.bool b50) [] ∧ Q (AV.bool b50) []) ∧ (decide (n41 ≤ n1) = false → Q (AV.bool false) [])) ∧ (decide (n40 ≤ n0) = false → Q (AV.bool false) [])) ∧ ((n42 == (0 : Int)) = false → Q (AV.bool false) [])))
theorem r4 (t : TMtTask) (x : TAsk) (by'0 : Int) (by'1 : Int) (S : SpecF) (Fr : FreshF) (Sq : SeqF) (Q : AV → List (List AV) → Prop) : awpF Tryz.prog (mkS Tryz.prog S Fr Sq ⟨[], [], [], [], []⟩ 0) 0 ⟨[0, 1, 2, 3, 4, 5, 6, 7, 8, 9, 10, 11, 12, 13, 31], [], [], [(9, 999000010), (11, 2007000003)]⟩ Tryz.f4 [t.av, x.av, .agg [.int .u8 by'0, .int .u8 by'1]] [] Q = R4 t x by'0 by'1 S Fr Sq Q := by kernel_rfl
theorem s4 (t : TMtTask) (x : TAsk) (by'0 : Int) (by'1 : Int) (v : AV) (O : List (List AV)) (h : R4 t x by'0 by'1 (SpecOf Tryz.prog) (FreshOf Tryz.prog) (SeqOf Tryz.prog) (fun r O' => r = v ∧ O' = O)) : SpecOf Tryz.prog 4 [t.av, x.av, .agg [.int .u8 by'0, .int .u8 by'1]] [] v O :=
  spec_by (boxes := []) mixed (by exact trivial) Tryz.func4 Tryz.call4 rfl rfl rfl (Nat.le_of_ble_eq_true rfl) (r4 t x by'0 by'1 (SpecOf Tryz.prog) (FreshOf Tryz.prog) (SeqOf Tryz.prog) _) h
theorem isAgg52 : isAggT Tryz.prog 52 = true := by kernel_rfl
theorem isAgg50 : isAggT Tryz.prog 50 = true := by kernel_rfl
theorem flatS (l : List TMtStep) : elemsOf 2 (l.map TMtStep.av) ∧ ((l.map TMtStep.av).flatMap AV.cells).length = l.length * 2 ∧ ones ((l.map TMtStep.av).flatMap AV.cells) = true :=
  have h := flat_map (f := TMtStep.av) (g := TMtStep.cs) (k := 2) (fun _ => rfl) (fun _ => rfl) (fun _ => rfl) l
  ⟨h.1, h.2.1, h.2.2.1⟩
theorem flatP (l : List TMtProfile) : elemsOf 2 (l.map TMtProfile.av) ∧ ((l.map TMtProfile.av).flatMap AV.cells).length = l.length * 2 ∧ ones ((l.map TMtProfile.av).flatMap AV.cells) = true :=
  have h := flat_map (f := TMtProfile.av) (g := TMtProfile.cs) (k := 2) (fun _ => rfl) (fun _ => rfl) (fun _ => rfl) l
  ⟨h.1, h.2.1, h.2.2.1⟩
theorem part3 (cs : List AV) (off : Nat) : partA Tryz.prog 3 cs off = cs[off]? := by
  have : Tryz.prog.underlying 3 = some (.int .i64) := by kernel_rfl
  simp only [partA, this]
theorem flat_at {α : Type} {f : α → AV} {g : α → List AV} {k : Nat} (hf : ∀ x, f x = .agg (g x)) (hk : ∀ x, (g x).length = k) : ∀ {l : List α} {i j : Nat} {x : α}, l[i]? = some x → j < k → ((l.map f).flatMap AV.cells)[i * k + j]? = (g x)[j]?
  | [], i, j, x, hi, _ => by simp at hi
  | y :: r, 0, j, x, hi, hj => by
    simp only [List.getElem?_cons_zero, Option.some.injEq] at hi
    subst hi
    simp only [List.map_cons, List.flatMap_cons, hf, AV.cells, Nat.zero_mul, Nat.zero_add]
    rw [List.getElem?_append_left (by rw [hk]; exact hj)]
  | y :: r, i + 1, j, x, hi, hj => by
    simp only [List.getElem?_cons_succ] at hi
    simp only [List.map_cons, List.flatMap_cons]
    have e : (f y).cells.length = k := by rw [hf]; exact hk y
    rw [List.getElem?_append_right (by rw [e, Nat.succ_mul]; omega), e, show (i + 1) * k + j - k = i * k + j by rw [Nat.succ_mul]; omega]
    exact flat_at hf hk hi hj
theorem c4 (t : TMtTask) (ht : t.Ok) (x : TAsk) (b0 b1 : Int) (hb0 : InK .u8 b0) (hb1 : InK .u8 b1) : Sp 4 [t.av, x.av, .agg [.int .u8 b0, .int .u8 b1]] [] (.bool true) [] := s4 t x b0 b1 _ _ (by
  obtain ⟨hT, hi, hpn, _⟩ := taskOK_of ht
  have hu0 := u8_of hb0
  have hu1 := u8_of hb1
  unfold R4
  rw [List.length_map]
  simp only [List.nil_append, Nat.zero_add, List.drop_zero]
  have k10 := c10 t hT (by omega) x.Index x.Day
  refine ⟨_, _, _, k10, fun h => ⟨_, c12, (by trivial), (by trivial)⟩, fun h => ⟨_, c13 t x.Index, fun h1 => ⟨_, c12, (by trivial), (by trivial)⟩, fun h1 => ?_⟩⟩
  have h : (energyR t x.Index x.Day).2 = 0 := by simpa using h
  obtain ⟨hv, g0, g1, _, _⟩ := energyR_ok (by omega) h
  obtain ⟨hg, hmem, hx⟩ := item_get g0 g1
  have hd := fun {i s lev} => dims (t := t) (item := x.Index) (day := x.Day) (i := i) (s := s) (lev := lev) (by omega) h
  have hit := hv.item hmem
  generalize itemAt t x.Index = y at *
  have hpr := hit.prof
  obtain ⟨hp, hp'⟩ := prof_get hpr.1 hpr.2
  have hpv := hv.prof (profAt_mem hpr)
  generalize profAt t y.Profile = p at *
  have hn := hpv.1
  have hnp := hv.np
  have hn8 := hpv.2.1
  have e2 : IntKind.i64.wrap b0 = b0 := i64 (by omega)
  have e1 : IntKind.i64.wrap b1 = b1 := i64 (by omega)
  have e3 : IntKind.i64.wrap (4 * b1) = 4 * b1 := i64 (by omega)
  have hF := flatS p.Steps
  have hi0 : 0 ≤ b0 % (p.Steps.length : Int) := Int.emod_nonneg _ (by omega)
  have hi1 : b0 % (p.Steps.length : Int) < p.Steps.length := Int.emod_lt_of_pos _ (by omega)
  have e4 : b0.tmod (p.Steps.length : Int) = b0 % (p.Steps.length : Int) := Int.tmod_eq_emod_of_nonneg hu0.1
  obtain ⟨i, hi'⟩ : ∃ i : Nat, b0 % (p.Steps.length : Int) = i := ⟨(b0 % (p.Steps.length : Int)).toNat, by omega⟩
  have hil : i < p.Steps.length := by omega
  obtain ⟨s, hs⟩ : ∃ s, p.Steps[i]? = some s := ⟨p.Steps[i], List.getElem?_eq_getElem hil⟩
  have hsl := validF_mem hpv.2.2 s (List.mem_of_getElem? hs)
  have e5 : IntKind.i64.wrap (s.Level - 4 * b1) = s.Level - 4 * b1 := i64 (by omega)
  obtain ⟨lev, hlev⟩ : ∃ lev, lev = if s.Level - 4 * b1 > 0 then s.Level - 4 * b1 else 0 := ⟨_, rfl⟩
  have hl0 : 0 ≤ lev ∧ lev ≤ s.Level := by rw [hlev]; split <;> omega
  have hset : setCells (List.flatMap AV.cells (p.Steps.map TMtStep.av)) (i * 2 + 1) [.int .i64 lev] = ((p.Steps.set i { s with Level := lev }).map TMtStep.av).flatMap AV.cells :=
    setCells_at (f := TMtStep.av) (g := TMtStep.cs) (fun _ => rfl) (fun _ => rfl) hs (by decide) rfl
  have hF2 := flatS (p.Steps.set i { s with Level := lev })
  rw [List.length_set] at hF2
  have hP := flatP t.Profiles
  have hset2 : setCells (List.flatMap AV.cells (t.Profiles.map TMtProfile.av)) (y.Profile.toNat * 2 + 1) [.slc 3 ((p.Steps.set i { s with Level := lev }).map TMtStep.av)] = ((t.Profiles.set y.Profile.toNat { p with Steps := p.Steps.set i { s with Level := lev } }).map TMtProfile.av).flatMap AV.cells :=
    setCells_at (f := TMtProfile.av) (g := TMtProfile.cs) (fun _ => rfl) (fun _ => rfl) hp (by decide) rfl
  have hP2 := flatP (t.Profiles.set y.Profile.toNat { p with Steps := p.Steps.set i { s with Level := lev } })
  rw [List.length_set] at hP2
  obtain ⟨hE2, hE3⟩ := hd hs hl0.1 hl0.2
  refine ⟨y.Name, y.Lamp, y.Count, y.Profile, y.Meter, y.Declared, y.From, y.Until, ⟨g0, (by trivial), hx⟩, p.Name, p.Steps.map TMtStep.av, ⟨hpr.1, (by trivial), hp'⟩, hF.1, ?_⟩
  rw [List.length_map, e2, e4, hi', Int.toNat_natCast, e1, e3]
  refine ⟨⟨.inl (by trivial), by omega, fun v hv => (by cases hv), hF.2.2, (by trivial)⟩, by omega, ⟨by omega, by omega, (by trivial)⟩, s.Level, ?_, ⟨by omega, by omega, (by trivial)⟩, by rw [hF.2.1]; omega, hP.1, ⟨.inl (by trivial), by omega, fun v hv => (by cases hv), hP.2.2, (by trivial)⟩, ?_⟩
  · rw [part3, flat_at (f := TMtStep.av) (g := TMtStep.cs) (k := 2) (fun _ => rfl) (fun _ => rfl) hs (by decide)]; rfl
  rw [e5, ← hlev, hset]
  refine ⟨by rw [hF2.2.1]; omega, (p.Steps.set i { s with Level := lev }).map TMtStep.av, ⟨by rw [List.length_map, List.length_set], (by trivial), ?_⟩, ⟨hpr.1, hpr.2, (by trivial)⟩, by rw [hP.2.1]; omega, ?_⟩
  · rw [isAgg52]; exact elemsA_map (f := TMtStep.av) (g := TMtStep.cs) (fun _ => rfl) (fun _ => rfl) _
  rw [hset2]
  refine ⟨by rw [hP2.2.1]; omega, (t.Profiles.set y.Profile.toNat { p with Steps := p.Steps.set i { s with Level := lev } }).map TMtProfile.av, ⟨by rw [List.length_map, List.length_set], (by trivial), ?_⟩, _, _, _, c10 (stepsT t y.Profile.toNat p (p.Steps.set i { s with Level := lev })) ?_ ?_ x.Index x.Day, ?_⟩
  · rw [isAgg50]; exact elemsA_map (f := TMtProfile.av) (g := TMtProfile.cs) (fun _ => rfl) (fun _ => rfl) _
  · refine ⟨hT.cat, fun z hz => ?_, hT.men, hT.itn, fun z hz => ?_⟩
    · rcases List.mem_or_eq_of_mem_set hz with hz | rfl
      · exact hT.prn z hz
      · exact hT.prn p (List.mem_of_getElem? hp)
    · rcases List.mem_or_eq_of_mem_set hz with hz | rfl
      · exact hT.stl z hz
      · simp only [List.length_set]; omega
  · show t.Items.length ≤ _; omega
  · rw [hE2]
    refine ⟨fun _ => ⟨fun _ => ⟨fun _ => ⟨_, c12, (by trivial), (by trivial)⟩, fun q => ?_⟩, fun q => ?_⟩, fun q => (by cases q)⟩
    · exact absurd hE3.2 (of_decide_eq_false q)
    · exact absurd hE3.1 (of_decide_eq_false q))
set_option maxRecDepth 100000 in
theorem lifted (os : Os) (started : os.Started) (H : Type) (enc : TypeId × Value → H) :
    ReturnsInHanded {} Tryz.checked os 4 .any (Rows.meterDimsSpec.pre6 enc Tryz.prog Tryz.f4 Rows.meterDimsRow.domain false) (Rows.meterDimsSpec.post enc Tryz.prog Tryz.f4 false true false false) := by
  refine returnsInHanded_of_change_sized (C := Tryz.checked) own started (by kernel_rfl) Tryz.func4
    (ChangeSpec.witness6 (enc := enc) (C := Tryz.checked) false ⟨#[], #[.agg #[.int .i64 0, .int .i64 0, .int .i64 0, .int .i64 0, .int .i64 0, .slice none 0 0, .slice none 0 0, .slice none 0 0, .slice none 0 0, .slice none 0 0], .agg #[.int .i64 0, .int .i64 0, .int .i64 0], .agg #[.int .u8 0, .int .u8 0]], []⟩ 8 (by kernel_rfl) (by kernel_rfl) (by kernel_rfl) (by kernel_rfl)) ?_
  intro W base args ds gs before hval0 hW hcnd hsz _
  have hval : ∀ (j : Nat) t v, Tryz.f4.params[j]? = some t → args[j]? = some v → Value.okWide Tryz.prog W .any base t v := hval0
  have hW' := hW
  obtain ⟨p, q, hA0, hV, rfl, hfz, hnd⟩ := hW
  have hA : DataW.TrodAll enc Tryz.prog W 0 (fun _ => true) true Tryz.f4.params.toList args.toList ds p := hA0
  rw [psL] at hA
  have hval : ∀ (j : Nat) t v, ([34, 36, 46] : List TypeId)[j]? = some t → args.toList[j]? = some v → Value.okWide Tryz.prog W .any base t v := fun j t v h1 h2 => hval j t v (by rw [← Array.getElem?_toList, psL]; exact h1) (by rw [← Array.getElem?_toList]; exact h2)
  have r := hA
  obtain ⟨v0, vs0, d0, ds0, p0, q0, hargs, rfl, rfl, h0, r⟩ := trodAll_cons r
  obtain ⟨v1, vs1, d1, ds1, p1, q1, rfl, rfl, rfl, h1, r⟩ := trodAll_cons r
  obtain ⟨v2, vs2, d2, ds2, p2, q2, rfl, rfl, rfl, h2, r⟩ := trodAll_cons r
  obtain ⟨rfl, rfl, rfl⟩ := trodAll_nil r
  obtain rfl : args = #[v0, v1, v2] := by cases args; simp_all
  obtain ⟨rfl, rfl⟩ := trodVars_none hV
  have lt0 : ∀ x ∈ p0, x.block < W.heap.size := by obtain ⟨m, hm⟩ := h0; exact DataW.trod_lt m _ _ _ hm
  obtain ⟨_, a0, c0, e0⟩ := arg_open (D := 8) (by kernel_rfl) h0 (fun n hn => of_decide_eq_true (List.all_eq_true.1 hsz n (DataW.weights_mem_each (j := 0) (t := 34) (by kernel_rfl) rfl n hn))) (hval 0 34 v0 rfl rfl)
  rw [show isAggT Tryz.prog 34 = true by kernel_rfl] at e0
  obtain ⟨t, rfl, ht⟩ := op34 c0
  have lt1 : ∀ x ∈ p1, x.block < W.heap.size := by obtain ⟨m, hm⟩ := h1; exact DataW.trod_lt m _ _ _ hm
  obtain ⟨_, a1, c1, e1⟩ := arg_open (D := 8) (by kernel_rfl) h1 (fun n hn => of_decide_eq_true (List.all_eq_true.1 hsz n (DataW.weights_mem_each (j := 1) (t := 36) (by kernel_rfl) rfl n hn))) (hval 1 36 v1 rfl rfl)
  rw [show isAggT Tryz.prog 36 = true by kernel_rfl] at e1
  obtain ⟨x, rfl, hx⟩ := op36 c1
  have lt2 : ∀ x ∈ p2, x.block < W.heap.size := by obtain ⟨m, hm⟩ := h2; exact DataW.trod_lt m _ _ _ hm
  obtain ⟨_, a2, c2, e2⟩ := arg_open (D := 8) (by kernel_rfl) h2 (fun n hn => of_decide_eq_true (List.all_eq_true.1 hsz n (DataW.weights_mem_each (j := 2) (t := 46) (by kernel_rfl) rfl n hn))) (hval 2 46 v2 rfl rfl)
  rw [show isAggT Tryz.prog 46 = true by kernel_rfl] at e2
  obtain ⟨y, rfl, hy⟩ := op46 c2
  have hr : Rvs (ofHeap W) none [t.av, x.av, .agg [.int .u8 y.1, .int .u8 y.2]] #[v0, v1, v2] := ⟨rfl, fun j => by
    match j with
    | 0 => exact e0
    | 1 => exact e1
    | 2 => exact e2
    | j + 3 => exact .undef ..⟩
  refine (law_calls (c4 t ht x y.1 y.2 hy.1 hy.2) hr).mono fun e W' ⟨he, bel⟩ => ?_
  subst he
  exact ⟨_, rfl, _, _, _, [], _, [], hW', trodAll_mk1 (shut_bool un4 _), (trodAll_cons_mk (Below.trod laidOut (by kernel_rfl) (of_decide_eq_true (by kernel_rfl)) h0 bel lt0) (trodAll_cons_mk (Below.trod laidOut (by kernel_rfl) (of_decide_eq_true (by kernel_rfl)) h1 bel lt1) (trodAll_cons_mk (Below.trod laidOut (by kernel_rfl) (of_decide_eq_true (by kernel_rfl)) h2 bel lt2) trodAll_mk0))), rfl, bel.frame _, fun h => by cases h⟩
theorem over : Rows.meterDimsRow.holds Tryz.pinned (OpenSpec.ofChange Rows.meterDimsSpec) :=
  OpenClaim.holds_of_wide 4 Tryz.f4 rfl rfl rfl rfl rfl rfl rfl ⟨rfl, rfl, rfl, rfl, rfl⟩ rfl rfl rfl rfl rfl (by kernel_rfl) Tryz.func4 (by kernel_rfl)
    (of_decide_eq_true (by kernel_rfl)) (by unfold Func.isWrapper; first | (rw [if_pos (by decide +kernel)]; kernel_rfl) | (rw [if_neg (by decide +kernel)]; exact ⟨rfl, rfl⟩))
    (fun os started H enc _ => lifted os started H enc)
theorem proved : Rows.MeterDimsSaid := over
#print axioms proved
end Go.Proofs.YtblebiafhhhflaaGreat.meterDimsDone

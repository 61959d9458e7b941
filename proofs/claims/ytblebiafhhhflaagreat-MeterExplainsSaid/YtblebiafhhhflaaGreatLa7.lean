/- MeterExplains: with as many lamps less as Suspects says at least, or at most, or any number between, Compare returns MtAgrees; with one less, or one more, it does not: for any inventory. -/
import Derived.Test.YtblebiafhhhflaaGreatIj
import Derived.Test.YtblebiafhhhflaaGreatOa
namespace Go.Proofs.YtblebiafhhhflaaGreat.meterExplainsDone
open Go.ChangeShapes Go.WideShapes Go.ChangeAt Go.RowKit Go.Proofs.YtblebiafhhhflaaGreat
theorem own : ownKnob Tryz.prog.godebug = none := by kernel_rfl
theorem laidOut : laidOutB Tryz.prog = true := by kernel_rfl
theorem un4 : Tryz.prog.underlying 4 = some .bool := by kernel_rfl
theorem psL : Tryz.f7.params.toList = [34, 66, 37] := by kernel_rfl
theorem opA2 {d : Nat} {cs : List AV} (h : CellsT Tryz.prog d 66 cs) : ∃ x : Int × Int, cs = [.int .i64 x.1, .int .i64 x.2] := by
 obtain ⟨d1, ps, rfl, hl, hp⟩ := cells_array (n := 2) (e := 3) (by kernel_rfl) h
 match ps, hl, hp with
 | [p0, p1], _, hp =>
  obtain ⟨x0, rfl, _⟩ := cells_int (k := .i64) (by kernel_rfl) (hp p0 (by simp))
  obtain ⟨x1, rfl, _⟩ := cells_int (k := .i64) (by kernel_rfl) (hp p1 (by simp))
  exact ⟨(x0, x1), rfl⟩
theorem part3 (cs : List AV) (off : Nat) : partA Tryz.prog 3 cs off = cs[off]? := by
 have : Tryz.prog.underlying 3 = some (.int .i64) := by kernel_rfl
 simp only [partA, this]
theorem flat_at {α : Type} {f : α → AV} {g : α → List AV} {k : Nat} (hf : ∀ x, f x = .agg (g x)) (hk : ∀ x, (g x).length = k) : ∀ {l : List α} {i j : Nat} {x : α}, l[i]? = some x → j < k → ((l.map f).flatMap AV.cells)[i * k + j]? = (g x)[j]?
 | [], i, j, x, hi, _ => by simp at hi
 | y :: r, 0, j, x, hi, hj => by
  simp only [List.getElem?_cons_zero, Option.some.injEq] at hi
  subst hi
  simp only [List.map_cons, List.flatMap_cons, hf, AV.cells, Nat.zero_mul, Nat.zero_add]
  rw [List.getElem?_append_left (by rw [hk]; exact hj)]
 | y :: r, i + 1, j, x, hi, hj => by
  simp only [List.getElem?_cons_succ] at hi
  simp only [List.map_cons, List.flatMap_cons]
  have e : (f y).cells.length = k := by rw [hf]; exact hk y
  rw [List.getElem?_append_right (by rw [e, Nat.succ_mul]; omega), e, show (i + 1) * k + j - k = i * k + j by rw [Nat.succ_mul]; omega]
  exact flat_at hf hk hi hj
theorem agg44' : isAggT Tryz.prog 44 = true := by kernel_rfl
theorem itemS' (l : List TMtItem) : elemsOf 8 (l.map TMtItem.av) ∧ ((l.map TMtItem.av).flatMap AV.cells).length = l.length * 8 ∧ ones ((l.map TMtItem.av).flatMap AV.cells) = true ∧ chunkA 8 l.length ((l.map TMtItem.av).flatMap AV.cells) = l.map TMtItem.av := flat_map (f := TMtItem.av) (g := TMtItem.cs) (k := 8) (fun _ => rfl) (fun _ => rfl) (fun _ => rfl) l
def R20 (t : TMtTask) (item : Int) (n : Int) (_S : SpecF) (_Fr : FreshF) (_Sq : SeqF) (Q : AV → List (List AV) → Prop) : Prop :=
 elemsOf (8 : Nat) (List.map TMtItem.av t.Items) ∧ ((([] : List AV) = [] ∨ (0 : Nat) < (List.map TMtItem.av t.Items).length) ∧ ((0 : Nat) + (List.map TMtItem.av t.Items).length + (512 : Nat)) * 361 ≤ (1125899906842624 : Nat) ∧ elemsOf (8 : Nat) [] ∧ ones (List.flatMap AV.cells (List.map TMtItem.av t.Items)) = true ∧ ones [] = true) ∧ ((0 : Int) ≤ item ∧ item < (↑((0 : Nat) + (List.map TMtItem.av t.Items).length) : Int) ∧ (8 : Nat) = (8 : Nat)) ∧ ∃ n3, Option.map AV.norm (partA Tryz.prog (3 : Nat) ([] ++ List.flatMap AV.cells (List.map TMtItem.av t.Items)) ((0 : Nat) + item.toNat * 8 + (2 : Nat))) = some (.int .i64 n3) ∧ (decide (n < n3) = true → ((0 : Int) ≤ item ∧ item < (↑((0 : Nat) + (List.map TMtItem.av t.Items).length) : Int) ∧ (8 : Nat) = (8 : Nat)) ∧ ∃ n8, Option.map AV.norm (partA Tryz.prog (3 : Nat) ([] ++ List.flatMap AV.cells (List.map TMtItem.av t.Items)) ((0 : Nat) + item.toNat * 8 + (2 : Nat))) = some (.int .i64 n8) ∧ ((0 : Int) ≤ item ∧ item < (↑((0 : Nat) + (List.map TMtItem.av t.Items).length) : Int) ∧ (8 : Nat) = (8 : Nat)) ∧ (0 : Nat) + item.toNat * 8 + (2 : Nat) + (1 : Nat) ≤ ([] ++ List.flatMap AV.cells (List.map TMtItem.av t.Items)).length ∧ (0 : Nat) + ((0 : Nat) + (List.map TMtItem.av t.Items).length) * 8 ≤ (setCells ([] ++ List.flatMap AV.cells (List.map TMtItem.av t.Items)) ((0 : Nat) + item.toNat * 8 + (2 : Nat)) [AV.int .i64 (IntKind.i64.wrap (n8 - n))]).length ∧ Q (.agg [AV.int .i64 t.City.Lat, .int .i64 t.City.Lon, .int .i64 t.City.Zone, .int .i64 t.City.Altitude.Lo, .int .i64 t.City.Altitude.Hi, .slc 3 (List.map TLmTable.av t.Catalog.Tables), .slc 3 (List.map TLmLamp.av t.Catalog.Lamps), .slc 3 (List.map TMtProfile.av t.Profiles), .slc 3 (chunks (8 : Nat) (isAggT Tryz.prog (44 : Nat)) ((0 : Nat) + (List.map TMtItem.av t.Items).length) (List.drop (0 : Nat) (setCells ([] ++ List.flatMap AV.cells (List.map TMtItem.av t.Items)) ((0 : Nat) + item.toNat * 8 + (2 : Nat)) [AV.int .i64 (IntKind.i64.wrap (n8 - n))]))), .slc 3 (List.map TMtMeter.av t.Meters)]) []) ∧ (decide (n < n3) = false → ((0 : Int) ≤ item ∧ item < (↑((0 : Nat) + (List.map TMtItem.av t.Items).length) : Int) ∧ (8 : Nat) = (8 : Nat)) ∧ ∃ n8, Option.map AV.norm (partA Tryz.prog (3 : Nat) ([] ++ List.flatMap AV.cells (List.map TMtItem.av t.Items)) ((0 : Nat) + item.toNat * 8 + (6 : Nat))) = some (.int .i64 n8) ∧ ((0 : Int) ≤ item ∧ item < (↑((0 : Nat) + (List.map TMtItem.av t.Items).length) : Int) ∧ (8 : Nat) = (8 : Nat)) ∧ (0 : Nat) + item.toNat * 8 + (7 : Nat) + (1 : Nat) ≤ ([] ++ List.flatMap AV.cells (List.map TMtItem.av t.Items)).length ∧ (0 : Nat) + ((0 : Nat) + (List.map TMtItem.av t.Items).length) * 8 ≤ (setCells ([] ++ List.flatMap AV.cells (List.map TMtItem.av t.Items)) ((0 : Nat) + item.toNat * 8 + (7 : Nat)) [AV.int .i64 n8]).length ∧ Q (.agg [AV.int .i64 t.City.Lat, .int .i64 t.City.Lon, .int .i64 t.City.Zone, .int .i64 t.City.Altitude.Lo, .int .i64 t.City.Altitude.Hi, .slc 3 (List.map TLmTable.av t.Catalog.Tables), .slc 3 (List.map TLmLamp.av t.Catalog.Lamps), .slc 3 (List.map TMtProfile.av t.Profiles), .slc 3 (chunks (8 : Nat) (isAggT Tryz.prog (44 : Nat)) ((0 : Nat) + (List.map TMtItem.av t.Items).length) (List.drop (0 : Nat) (setCells ([] ++ List.flatMap AV.cells (List.map TMtItem.av t.Items)) ((0 : Nat) + item.toNat * 8 + (7 : Nat)) [AV.int .i64 n8]))), .slc 3 (List.map TMtMeter.av t.Meters)]) [])
theorem r20 (t : TMtTask) (item : Int) (n : Int) (S : SpecF) (Fr : FreshF) (Sq : SeqF) (Q : AV → List (List AV) → Prop) : awpF Tryz.prog (mkS Tryz.prog S Fr Sq ⟨[], [], [], [], []⟩ 0) 0 ⟨[0, 1, 2, 3, 6, 7, 18], [], [], []⟩ Tryz.f20 [t.av, .int .i64 item, .int .i64 n] [] Q = R20 t item n S Fr Sq Q := by kernel_rfl
theorem s20 (t : TMtTask) (item : Int) (n : Int) (v : AV) (O : List (List AV)) (h : R20 t item n (SpecOf Tryz.prog) (FreshOf Tryz.prog) (SeqOf Tryz.prog) (fun r O' => r = v ∧ O' = O)) : SpecOf Tryz.prog 20 [t.av, .int .i64 item, .int .i64 n] [] v O :=
 spec_by (boxes := []) mixed (by exact trivial) Tryz.func20 Tryz.call20 rfl rfl rfl (Nat.le_of_ble_eq_true rfl) (r20 t item n (SpecOf Tryz.prog) (FreshOf Tryz.prog) (SeqOf Tryz.prog) _) h
theorem c20 (t : TMtTask) (hl : t.Items.length ≤ 1000) (item : Int) (h0 : 0 ≤ item) (h1 : item < t.Items.length) (n : Int) (hn : 1 ≤ n) (hc : 0 ≤ (itemAt t item).Count ∧ (itemAt t item).Count ≤ 1000) : Sp 20 [t.av, .int .i64 item, .int .i64 n] [] (withoutT t item n).av [] := s20 t item n _ _ (by
 unfold R20
 obtain ⟨hg, _, _⟩ := item_get h0 h1
 unfold withoutT
 generalize itemAt t item = x at *
 have hF := itemS' t.Items
 simp only [List.length_map, List.nil_append, Nat.zero_add, List.drop_zero]
 have hp := fun {j : Nat} {v : AV} (hj : j < 8) (hv : x.cs[j]? = some v) => (show Option.map AV.norm (partA Tryz.prog 3 (List.flatMap AV.cells (t.Items.map TMtItem.av)) (item.toNat * 8 + j)) = some v.norm by rw [part3, flat_at (f := TMtItem.av) (g := TMtItem.cs) (k := 8) (fun _ => rfl) (fun _ => rfl) hg hj, hv]; rfl)
 have hch : ∀ y : TMtItem, chunks 8 (isAggT Tryz.prog 44) t.Items.length (List.flatMap AV.cells ((t.Items.set item.toNat y).map TMtItem.av)) = (t.Items.set item.toNat y).map TMtItem.av := fun y => by
  have := (itemS' (t.Items.set item.toNat y)).2.2.2
  rw [List.length_set] at this
  rw [agg44']; simp only [chunks, if_true]; exact this
 refine ⟨hF.1, ⟨.inl (by trivial), by omega, fun v hv => (by cases hv), hF.2.2.1, by trivial⟩, ⟨h0, h1, by trivial⟩, x.Count, hp (j := 2) (by decide) rfl, fun g => ⟨⟨h0, h1, by trivial⟩, x.Count, hp (j := 2) (by decide) rfl, ⟨h0, h1, by trivial⟩, by rw [hF.2.1]; omega, ?_⟩, fun g => ⟨⟨h0, h1, by trivial⟩, x.From, hp (j := 6) (by decide) rfl, ⟨h0, h1, by trivial⟩, by rw [hF.2.1]; omega, ?_⟩⟩
 ·have g := of_decide_eq_true g
  have hset := setCells_at (f := TMtItem.av) (g := TMtItem.cs) (k := 8) (fun _ => rfl) (fun _ => rfl) (j := 2) (x' := { x with Count := x.Count - n }) (v := .int .i64 (x.Count - n)) hg (by decide) rfl
  rw [i64 (by omega), hset, if_pos g, hch]
  exact ⟨by rw [(itemS' _).2.1, List.length_set]; omega, rfl, by trivial⟩
 ·have g := of_decide_eq_false g
  have hset := setCells_at (f := TMtItem.av) (g := TMtItem.cs) (k := 8) (fun _ => rfl) (fun _ => rfl) (j := 7) (x' := { x with Until := x.From }) (v := .int .i64 x.From) hg (by decide) rfl
  rw [hset, if_neg g, hch]
  exact ⟨by rw [(itemS' _).2.1, List.length_set]; omega, rfl, by trivial⟩)
theorem withoutT_ok {t : TMtTask} (hT : TaskOK t) {item : Int} (h0 : 0 ≤ item) (h1 : item < t.Items.length) (n : Int) : TaskOK (withoutT t item n) := by
 obtain ⟨_, hm, _⟩ := item_get h0 h1
 unfold withoutT
 refine ⟨hT.cat, hT.prn, hT.men, fun z hz => ?_, hT.stl⟩
 rcases List.mem_or_eq_of_mem_set hz with hz | rfl
 ·exact hT.itn z hz
 ·split
  ·exact hT.itn (itemAt t item) hm
  ·exact hT.itn (itemAt t item) hm
def R7 (t : TMtTask) (x0 : Int) (x1 : Int) (between : Int) (S : SpecF) (_Fr : FreshF) (_Sq : SeqF) (Q : AV → List (List AV) → Prop) : Prop :=
 ∃ b0, S 16 [t.av, .int .i64 3] [] (.bool b0) [] ∧ ((!b0) = true → ∃ b4, S 12 [] [] (.bool b4) [] ∧ Q (.bool b4) []) ∧ ((!b0) = false → ∃ es4 n5, S 18 [t.av, .int .i64 x0, .int .i64 x1] [] (.tup [AV.slc 3 es4, .int .i64 n5]) [] ∧ ((n5 != 0) = true → ∃ b9, S 12 [] [] (.bool b9) [] ∧ Q (.bool b9) []) ∧ ((n5 != 0) = false → ∃ (I9 : Nat → List AV → Prop), (∃ m11, I9 m11 [AV.int .i64 0]) ∧ ∀ (m11 : Nat) (n12 : Int), I9 m11 [AV.int .i64 n12] → (decide (n12 < (↑es4.length : Int)) = true → ∃ n16 n17 n18, ((0 : Int) ≤ n12 ∧ (3 : Nat) = (3 : Nat) ∧ es4[n12.toNat]? = some (.agg [AV.int .i64 n16, .int .i64 n17, .int .i64 n18])) ∧ (decide (n16 < 0) = true → Q (.bool false) []) ∧ (decide (n16 < 0) = false → (decide (n16 ≥ (↑(List.map TMtItem.av t.Items).length : Int)) = true → Q (.bool false) []) ∧ (decide (n16 ≥ (↑(List.map TMtItem.av t.Items).length : Int)) = false → (decide (n17 < 1) = true → Q (.bool false) []) ∧ (decide (n17 < 1) = false → (decide (n17 > n18) = true → Q (.bool false) []) ∧ (decide (n17 > n18) = false → ∃ s28 n29 n30 n31 n32 n33 n34 n35, ((0 : Int) ≤ n16 ∧ (8 : Nat) = (8 : Nat) ∧ (List.map TMtItem.av t.Items)[n16.toNat]? = some (.agg [AV.str s28, .int .i64 n29, .int .i64 n30, .int .i64 n31, .int .i64 n32, .int .i64 n33, .int .i64 n34, .int .i64 n35])) ∧ (decide (n18 > n30) = true → Q (.bool false) []) ∧ (decide (n18 > n30) = false → ∃ s39 n40 n41 n42 n43 n44 n45 n46, ((0 : Int) ≤ n16 ∧ (8 : Nat) = (8 : Nat) ∧ (List.map TMtItem.av t.Items)[n16.toNat]? = some (.agg [AV.str s39, .int .i64 n40, .int .i64 n41, .int .i64 n42, .int .i64 n43, .int .i64 n44, .int .i64 n45, .int .i64 n46])) ∧ ((n43 != x0) = true → Q (.bool false) []) ∧ ((n43 != x0) = false → IntKind.i64.wrap (IntKind.i64.wrap (n18 - n17) + 1) ≠ 0 ∧ ∃ n51 n52 n53 n54 n55 es56 es57 es58 es59 es60, S 20 [t.av, .int .i64 n16, .int .i64 n17] [] (.agg [AV.int .i64 n51, .int .i64 n52, .int .i64 n53, .int .i64 n54, .int .i64 n55, .slc 3 es56, .slc 3 es57, .slc 3 es58, .slc 3 es59, .slc 3 es60]) [] ∧ ∃ b62, S 19 [AV.agg [AV.int .i64 n51, .int .i64 n52, .int .i64 n53, .int .i64 n54, .int .i64 n55, .slc 3 es56, .slc 3 es57, .slc 3 es58, .slc 3 es59, .slc 3 es60], .int .i64 x0, .int .i64 x1] [] (.bool b62) [] ∧ ((!b62) = true → Q (.bool false) []) ∧ ((!b62) = false → ∃ n66 n67 n68 n69 n70 es71 es72 es73 es74 es75, S 20 [t.av, .int .i64 n16, .int .i64 n18] [] (.agg [AV.int .i64 n66, .int .i64 n67, .int .i64 n68, .int .i64 n69, .int .i64 n70, .slc 3 es71, .slc 3 es72, .slc 3 es73, .slc 3 es74, .slc 3 es75]) [] ∧ ∃ b77, S 19 [AV.agg [AV.int .i64 n66, .int .i64 n67, .int .i64 n68, .int .i64 n69, .int .i64 n70, .slc 3 es71, .slc 3 es72, .slc 3 es73, .slc 3 es74, .slc 3 es75], .int .i64 x0, .int .i64 x1] [] (.bool b77) [] ∧ ((!b77) = true → Q (.bool false) []) ∧ ((!b77) = false → ∃ n81 n82 n83 n84 n85 es86 es87 es88 es89 es90, S 20 [t.av, .int .i64 n16, .int .i64 (IntKind.i64.wrap (n17 + (IntKind.i64.wrap between).tmod (IntKind.i64.wrap (IntKind.i64.wrap (n18 - n17) + 1))))] [] (.agg [AV.int .i64 n81, .int .i64 n82, .int .i64 n83, .int .i64 n84, .int .i64 n85, .slc 3 es86, .slc 3 es87, .slc 3 es88, .slc 3 es89, .slc 3 es90]) [] ∧ ∃ b92, S 19 [AV.agg [AV.int .i64 n81, .int .i64 n82, .int .i64 n83, .int .i64 n84, .int .i64 n85, .slc 3 es86, .slc 3 es87, .slc 3 es88, .slc 3 es89, .slc 3 es90], .int .i64 x0, .int .i64 x1] [] (.bool b92) [] ∧ ((!b92) = true → Q (.bool false) []) ∧ ((!b92) = false → (decide (n17 > 1) = true → ∃ n98 n99 n100 n101 n102 es103 es104 es105 es106 es107, S 20 [t.av, .int .i64 n16, .int .i64 (IntKind.i64.wrap (n17 - 1))] [] (.agg [AV.int .i64 n98, .int .i64 n99, .int .i64 n100, .int .i64 n101, .int .i64 n102, .slc 3 es103, .slc 3 es104, .slc 3 es105, .slc 3 es106, .slc 3 es107]) [] ∧ ∃ b109, S 19 [AV.agg [AV.int .i64 n98, .int .i64 n99, .int .i64 n100, .int .i64 n101, .int .i64 n102, .slc 3 es103, .slc 3 es104, .slc 3 es105, .slc 3 es106, .slc 3 es107], .int .i64 x0, .int .i64 x1] [] (.bool b109) [] ∧ (b109 = true → Q (.bool false) []) ∧ (b109 = false → ∃ s113 n114 n115 n116 n117 n118 n119 n120, ((0 : Int) ≤ n16 ∧ (8 : Nat) = (8 : Nat) ∧ (List.map TMtItem.av t.Items)[n16.toNat]? = some (.agg [AV.str s113, .int .i64 n114, .int .i64 n115, .int .i64 n116, .int .i64 n117, .int .i64 n118, .int .i64 n119, .int .i64 n120])) ∧ (decide (n18 < n115) = true → ∃ n124 n125 n126 n127 n128 es129 es130 es131 es132 es133, S 20 [t.av, .int .i64 n16, .int .i64 (IntKind.i64.wrap (n18 + 1))] [] (.agg [AV.int .i64 n124, .int .i64 n125, .int .i64 n126, .int .i64 n127, .int .i64 n128, .slc 3 es129, .slc 3 es130, .slc 3 es131, .slc 3 es132, .slc 3 es133]) [] ∧ ∃ b135, S 19 [AV.agg [AV.int .i64 n124, .int .i64 n125, .int .i64 n126, .int .i64 n127, .int .i64 n128, .slc 3 es129, .slc 3 es130, .slc 3 es131, .slc 3 es132, .slc 3 es133], .int .i64 x0, .int .i64 x1] [] (.bool b135) [] ∧ (b135 = true → Q (.bool false) []) ∧ (b135 = false → t.cs = t.cs ∧ Same [AV.int .i64 x0, .int .i64 x1] ∧ ∃ k141, k141 < m11 ∧ I9 k141 [AV.int .i64 (IntKind.i64.wrap (n12 + 1))])) ∧ (decide (n18 < n115) = false → t.cs = t.cs ∧ Same [AV.int .i64 x0, .int .i64 x1] ∧ ∃ k126, k126 < m11 ∧ I9 k126 [AV.int .i64 (IntKind.i64.wrap (n12 + 1))]))) ∧ (decide (n17 > 1) = false → ∃ s98 n99 n100 n101 n102 n103 n104 n105, ((0 : Int) ≤ n16 ∧ (8 : Nat) = (8 : Nat) ∧ (List.map TMtItem.av t.Items)[n16.toNat]? = some (.agg [AV.str s98, .int .i64 n99, .int .i64 n100, .int .i64 n101, .int .i64 n102, .int .i64 n103, .int .i64 n104, .int .i64 n105])) ∧ (decide (n18 < n100) = true → ∃ n109 n110 n111 n112 n113 es114 es115 es116 es117 es118, S 20 [t.av, .int .i64 n16, .int .i64 (IntKind.i64.wrap (n18 + 1))] [] (.agg [AV.int .i64 n109, .int .i64 n110, .int .i64 n111, .int .i64 n112, .int .i64 n113, .slc 3 es114, .slc 3 es115, .slc 3 es116, .slc 3 es117, .slc 3 es118]) [] ∧ ∃ b120, S 19 [AV.agg [AV.int .i64 n109, .int .i64 n110, .int .i64 n111, .int .i64 n112, .int .i64 n113, .slc 3 es114, .slc 3 es115, .slc 3 es116, .slc 3 es117, .slc 3 es118], .int .i64 x0, .int .i64 x1] [] (.bool b120) [] ∧ (b120 = true → Q (.bool false) []) ∧ (b120 = false → t.cs = t.cs ∧ Same [AV.int .i64 x0, .int .i64 x1] ∧ ∃ k126, k126 < m11 ∧ I9 k126 [AV.int .i64 (IntKind.i64.wrap (n12 + 1))])) ∧ (decide (n18 < n100) = false → t.cs = t.cs ∧ Same [AV.int .i64 x0, .int .i64 x1] ∧ ∃ k111, k111 < m11 ∧ I9 k111 [AV.int .i64 (IntKind.i64.wrap (n12 + 1))])))))))))))) ∧ (decide (n12 < (↑es4.length : Int)) = false → ∃ b16, S 12 [] [] (.bool b16) [] ∧ Q (.bool b16) [])))
theorem r7 (t : TMtTask) (x0 : Int) (x1 : Int) (between : Int) (S : SpecF) (Fr : FreshF) (Sq : SeqF) (Q : AV → List (List AV) → Prop) : awpF Tryz.prog (mkS Tryz.prog S Fr Sq ⟨[], [], [], [], []⟩ 0) 0 ⟨[0, 1, 2, 3, 4, 6, 7, 8, 9, 10, 11, 12, 13, 20, 30, 35, 87, 132, 171], [⟨8, [(11, .int .i64 0)], [], [], [], []⟩], [], []⟩ Tryz.f7 [t.av, .agg [.int .i64 x0, .int .i64 x1], .int .u16 between] [] Q = R7 t x0 x1 between S Fr Sq Q := by kernel_rfl
theorem s7 (t : TMtTask) (x0 : Int) (x1 : Int) (between : Int) (v : AV) (O : List (List AV)) (h : R7 t x0 x1 between (SpecOf Tryz.prog) (FreshOf Tryz.prog) (SeqOf Tryz.prog) (fun r O' => r = v ∧ O' = O)) : SpecOf Tryz.prog 7 [t.av, .agg [.int .i64 x0, .int .i64 x1], .int .u16 between] [] v O :=
 spec_by (boxes := []) mixed (by exact trivial) Tryz.func7 Tryz.call7 rfl rfl rfl (Nat.le_of_ble_eq_true rfl) (r7 t x0 x1 between (SpecOf Tryz.prog) (FreshOf Tryz.prog) (SeqOf Tryz.prog) _) h
theorem c7 (t : TMtTask) (ht : t.Ok) (x0 x1 between : Int) (hb : InK .u16 between) : Sp 7 [t.av, .agg [.int .i64 x0, .int .i64 x1], .int .u16 between] [] (.bool true) [] := s7 t x0 x1 between _ _ (by
 obtain ⟨hT, hi, _, hmn⟩ := taskOK_of ht
 have hbt := u16_of hb
 unfold R7
 have aw : (∃ b : Bool, SpecOf Tryz.prog 12 [] [] (.bool b) [] ∧ (AV.bool b = .bool true ∧ (([] : List (List AV)) = []))) := ⟨_, c12, rfl, rfl⟩
 refine ⟨_, c16 t (by omega) 3, fun _ => aw, fun _ => ⟨_, _, c18 t hT (by omega) x0 x1, fun _ => aw, fun h => ?_⟩⟩
 have h : (suspectsR t x0 x1).2 = 0 := by simpa using h
 obtain ⟨hv, hex⟩ := explain (by omega) h
 have hni := hv.ni
 have hlen : (suspectsR t x0 x1).1.length ≤ 20 := by
  unfold suspectsR
  split
  ·simp
  ·split
   ·have := suspK_len t x0 (pairAt (meterAt t x0) x1.toNat) t.Items.length; simp only; omega
   ·simp
 generalize (suspectsR t x0 x1).1 = L at *
 rw [List.length_map]
 refine ⟨fun m vs => ∃ k : Nat, k ≤ L.length ∧ m = L.length - k ∧ vs = [.int .i64 k], ⟨_, 0, by omega, rfl, rfl⟩, ?_⟩
 rintro m n12 ⟨k, hk, rfl, hvk⟩
 cases hvk
 refine ⟨fun g => ?_, fun _ => aw⟩
 have hlt : k < L.length := by have := of_decide_eq_true g; omega
 obtain ⟨s, hs, hs'⟩ := map_getN (f := TMtSuspect.av) hlt
 obtain ⟨e0, e1, e2, e3, e4, e5, e5', e6, e7, e8, e9⟩ := hex s (List.mem_of_getElem? hs)
 obtain ⟨hg, hm, hx⟩ := item_get e1 e2
 have W := fun n (hn : 1 ≤ n) => c20 t (by omega) s.Item e1 e2 n hn (by omega)
 have A := fun n => c19 (withoutT t s.Item n) (withoutT_ok hT e1 e2 n) (by show (t.Items.set _ _).length ≤ _; rw [List.length_set]; omega) (by show t.Meters.length ≤ _; omega) x0 x1 e0
 generalize hxe : itemAt t s.Item = x at *
 have next : ∃ k111, k111 < L.length - k ∧ ∃ k' : Nat, k' ≤ L.length ∧ k111 = L.length - k' ∧ [AV.int .i64 (IntKind.i64.wrap ((k : Int) + 1))] = [.int .i64 k'] := ⟨L.length - (k + 1), by omega, k + 1, by omega, rfl, by rw [i64 (by omega)]; rfl⟩
 have w1 : IntKind.i64.wrap (s.Most - s.Least) = s.Most - s.Least := i64 (by omega)
 have w2 : IntKind.i64.wrap (s.Most - s.Least + 1) = s.Most - s.Least + 1 := i64 (by omega)
 have w3 : IntKind.i64.wrap between = between := i64 (by omega)
 have r0 := Int.emod_nonneg between (show s.Most - s.Least + 1 ≠ 0 by omega)
 have r1 := Int.emod_lt_of_pos between (show 0 < s.Most - s.Least + 1 by omega)
 have w4 : between.tmod (s.Most - s.Least + 1) = between % (s.Most - s.Least + 1) := Int.tmod_eq_emod_of_nonneg (by omega)
 have w5 : IntKind.i64.wrap (s.Least + between % (s.Most - s.Least + 1)) = s.Least + between % (s.Most - s.Least + 1) := i64 (by omega)
 have w6 : IntKind.i64.wrap (s.Least - 1) = s.Least - 1 := i64 (by omega)
 have w7 : IntKind.i64.wrap (s.Most + 1) = s.Most + 1 := i64 (by omega)
 rw [List.length_map]
 refine ⟨s.Item, s.Least, s.Most, ⟨by omega, rfl, hs'⟩, fun q => absurd (of_decide_eq_true q) (by omega), fun _ => ⟨fun q => absurd (of_decide_eq_true q) (by omega), fun _ => ⟨fun q => absurd (of_decide_eq_true q) (by omega), fun _ => ⟨fun q => absurd (of_decide_eq_true q) (by omega), fun _ => ?_⟩⟩⟩⟩
 rw [w1, w2, w3, w4, w5, w6, w7]
 have fin : decide (s.Most < x.Count) = true → ∃ n109 n110 n111 n112 n113 es114 es115 es116 es117 es118, SpecOf Tryz.prog 20 [t.av, .int .i64 s.Item, .int .i64 (s.Most + 1)] [] (AV.agg [.int .i64 n109, .int .i64 n110, .int .i64 n111, .int .i64 n112, .int .i64 n113, .slc 3 es114, .slc 3 es115, .slc 3 es116, .slc 3 es117, .slc 3 es118]) [] ∧ SpecOf Tryz.prog 19 [AV.agg [.int .i64 n109, .int .i64 n110, .int .i64 n111, .int .i64 n112, .int .i64 n113, .slc 3 es114, .slc 3 es115, .slc 3 es116, .slc 3 es117, .slc 3 es118], .int .i64 x0, .int .i64 x1] [] (.bool false) [] := by
  intro q
  have q := of_decide_eq_true q
  have a := A (s.Most + 1)
  rw [e9 q] at a
  exact ⟨_, _, _, _, _, _, _, _, _, _, W _ (by omega), a⟩
 have a1 := A s.Least
 rw [e7 _ (by omega) (by omega)] at a1
 have a2 := A s.Most
 rw [e7 _ (by omega) (by omega)] at a2
 have a3 := A (s.Least + between % (s.Most - s.Least + 1))
 rw [e7 _ (by omega) (by omega)] at a3
 refine ⟨x.Name, x.Lamp, x.Count, x.Profile, x.Meter, x.Declared, x.From, x.Until, ⟨e1, rfl, hx⟩, fun q => absurd (of_decide_eq_true q) (by omega), fun _ => ⟨x.Name, x.Lamp, x.Count, x.Profile, x.Meter, x.Declared, x.From, x.Until, ⟨e1, rfl, hx⟩, fun q => absurd e6 (by simpa using q), fun _ => ⟨by omega,
  _, _, _, _, _, _, _, _, _, _, W _ (by omega), _, a1, fun q => (by cases q), fun _ => ⟨_, _, _, _, _, _, _, _, _, _, W _ (by omega), _, a2, fun q => (by cases q), fun _ => ⟨_, _, _, _, _, _, _, _, _, _, W _ (by omega), _, a3, fun q => (by cases q), fun _ => ⟨fun q => ?_, fun q => ?_⟩⟩⟩⟩⟩⟩
 ·have q := of_decide_eq_true q
  have a4 := A (s.Least - 1)
  rw [e8 q] at a4
  refine ⟨_, _, _, _, _, _, _, _, _, _, W _ (by omega), _, a4, fun q => (by cases q), fun _ => ⟨x.Name, x.Lamp, x.Count, x.Profile, x.Meter, x.Declared, x.From, x.Until, ⟨e1, rfl, hx⟩, fun q2 => ?_, fun _ => ⟨rfl, rfl, next⟩⟩⟩
  obtain ⟨_, _, _, _, _, _, _, _, _, _, f1, f2⟩ := fin q2
  exact ⟨_, _, _, _, _, _, _, _, _, _, f1, _, f2, fun q => (by cases q), fun _ => ⟨rfl, rfl, next⟩⟩
 ·refine ⟨x.Name, x.Lamp, x.Count, x.Profile, x.Meter, x.Declared, x.From, x.Until, ⟨e1, rfl, hx⟩, fun q2 => ?_, fun _ => ⟨rfl, rfl, next⟩⟩
  obtain ⟨_, _, _, _, _, _, _, _, _, _, f1, f2⟩ := fin q2
  exact ⟨_, _, _, _, _, _, _, _, _, _, f1, _, f2, fun q => (by cases q), fun _ => ⟨rfl, rfl, next⟩⟩)
set_option maxRecDepth 100000 in
theorem lifted (os : Os) (started : os.Started) (H : Type) (enc : TypeId × Value → H) :
  ReturnsInHanded {} Tryz.checked os 7 .any (Rows.meterExplainsSpec.pre6 enc Tryz.prog Tryz.f7 Rows.meterExplainsRow.domain false) (Rows.meterExplainsSpec.post enc Tryz.prog Tryz.f7 false true false false) := by
 refine returnsInHanded_of_change_sized (C := Tryz.checked) own started (by kernel_rfl) Tryz.func7
  (ChangeSpec.witness6 (enc := enc) (C := Tryz.checked) false ⟨#[], #[.agg #[.int .i64 0, .int .i64 0, .int .i64 0, .int .i64 0, .int .i64 0, .slice none 0 0, .slice none 0 0, .slice none 0 0, .slice none 0 0, .slice none 0 0], .agg #[.int .i64 0, .int .i64 0], .int .u16 0], []⟩ 8 (by kernel_rfl) (by kernel_rfl) (by kernel_rfl) (by kernel_rfl)) ?_
 intro W base args ds gs before hval0 hW hcnd hsz _
 have hval : ∀ (j : Nat) t v, Tryz.f7.params[j]? = some t → args[j]? = some v → Value.okWide Tryz.prog W .any base t v := hval0
 have hW' := hW
 obtain ⟨p, q, hA0, hV, rfl, hfz, hnd⟩ := hW
 have hA : DataW.TrodAll enc Tryz.prog W 0 (fun _ => true) true Tryz.f7.params.toList args.toList ds p := hA0
 rw [psL] at hA
 have hval : ∀ (j : Nat) t v, ([34, 66, 37] : List TypeId)[j]? = some t → args.toList[j]? = some v → Value.okWide Tryz.prog W .any base t v := fun j t v h1 h2 => hval j t v (by rw [← Array.getElem?_toList, psL]; exact h1) (by rw [← Array.getElem?_toList]; exact h2)
 have r := hA
 obtain ⟨v0, vs0, d0, ds0, p0, q0, hargs, rfl, rfl, h0, r⟩ := trodAll_cons r
 obtain ⟨v1, vs1, d1, ds1, p1, q1, rfl, rfl, rfl, h1, r⟩ := trodAll_cons r
 obtain ⟨v2, vs2, d2, ds2, p2, q2, rfl, rfl, rfl, h2, r⟩ := trodAll_cons r
 obtain ⟨rfl, rfl, rfl⟩ := trodAll_nil r
 obtain rfl : args = #[v0, v1, v2] := by cases args; simp_all
 obtain ⟨rfl, rfl⟩ := trodVars_none hV
 have lt0 : ∀ x ∈ p0, x.block < W.heap.size := by obtain ⟨m, hm⟩ := h0; exact DataW.trod_lt m _ _ _ hm
 obtain ⟨_, a0, c0, e0⟩ := arg_open (D := 8) (by kernel_rfl) h0 (fun n hn => of_decide_eq_true (List.all_eq_true.1 hsz n (DataW.weights_mem_each (j := 0) (t := 34) (by kernel_rfl) rfl n hn))) (hval 0 34 v0 rfl rfl)
 rw [show isAggT Tryz.prog 34 = true by kernel_rfl] at e0
 obtain ⟨t, rfl, ht⟩ := op34 c0
 have lt1 : ∀ x ∈ p1, x.block < W.heap.size := by obtain ⟨m, hm⟩ := h1; exact DataW.trod_lt m _ _ _ hm
 obtain ⟨_, a1, c1, e1⟩ := arg_open (D := 8) (by kernel_rfl) h1 (fun n hn => of_decide_eq_true (List.all_eq_true.1 hsz n (DataW.weights_mem_each (j := 1) (t := 66) (by kernel_rfl) rfl n hn))) (hval 1 66 v1 rfl rfl)
 rw [show isAggT Tryz.prog 66 = true by kernel_rfl] at e1
 obtain ⟨y, rfl⟩ := opA2 c1
 have lt2 : ∀ x ∈ p2, x.block < W.heap.size := by obtain ⟨m, hm⟩ := h2; exact DataW.trod_lt m _ _ _ hm
 obtain ⟨_, a2, c2, e2⟩ := arg_open (D := 8) (by kernel_rfl) h2 (fun n hn => of_decide_eq_true (List.all_eq_true.1 hsz n (DataW.weights_mem_each (j := 2) (t := 37) (by kernel_rfl) rfl n hn))) (hval 2 37 v2 rfl rfl)
 rw [show isAggT Tryz.prog 37 = false by kernel_rfl] at e2
 obtain ⟨n2, rfl, hn2⟩ := cells_int (k := .u16) (by kernel_rfl) c2
 have hr : Rvs (ofHeap W) none [t.av, .agg [.int .i64 y.1, .int .i64 y.2], .int .u16 n2] #[v0, v1, v2] := ⟨rfl, fun j => by
  match j with
  | 0 => exact e0
  | 1 => exact e1
  | 2 => exact e2
  | j + 3 => exact .undef ..⟩
 refine (law_calls (c7 t ht y.1 y.2 n2 hn2) hr).mono fun e W' ⟨he, bel⟩ => ?_
 subst he
 exact ⟨_, rfl, _, _, _, [], _, [], hW', trodAll_mk1 (shut_bool un4 _), (trodAll_cons_mk (Below.trod laidOut (by kernel_rfl) (of_decide_eq_true (by kernel_rfl)) h0 bel lt0) (trodAll_cons_mk (Below.trod laidOut (by kernel_rfl) (of_decide_eq_true (by kernel_rfl)) h1 bel lt1) (trodAll_cons_mk (Below.trod laidOut (by kernel_rfl) (of_decide_eq_true (by kernel_rfl)) h2 bel lt2) trodAll_mk0))), rfl, bel.frame _, fun h => by cases h⟩
theorem over : Rows.meterExplainsRow.holds Tryz.pinned (OpenSpec.ofChange Rows.meterExplainsSpec) :=
 OpenClaim.holds_of_wide 7 Tryz.f7 rfl rfl rfl rfl rfl rfl rfl ⟨rfl, rfl, rfl, rfl, rfl⟩ rfl rfl rfl rfl rfl (by kernel_rfl) Tryz.func7 (by kernel_rfl)
  (of_decide_eq_true (by kernel_rfl)) (by unfold Func.isWrapper; first | (rw [if_pos (by decide +kernel)]; kernel_rfl) | (rw [if_neg (by decide +kernel)]; exact ⟨rfl, rfl⟩))
  (fun os started H enc _ => lifted os started H enc)
theorem proved : Rows.MeterExplainsSaid := over
#print axioms proved
end Go.Proofs.YtblebiafhhhflaaGreat.meterExplainsDone

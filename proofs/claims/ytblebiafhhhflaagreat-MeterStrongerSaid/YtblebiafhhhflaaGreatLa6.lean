/- MeterStronger: with lamps of a greater power no end of Saved is less, for any inventory. -/
import Derived.Test.YtblebiafhhhflaaGreatIh
import Derived.Test.YtblebiafhhhflaaGreatOa
namespace Go.Proofs.YtblebiafhhhflaaGreat.meterStrongerDone
open Go.ChangeShapes Go.WideShapes Go.ChangeAt Go.RowKit Go.Proofs.YtblebiafhhhflaaGreat
theorem own : ownKnob Tryz.prog.godebug = none := by kernel_rfl
theorem laidOut : laidOutB Tryz.prog = true := by kernel_rfl
theorem un4 : Tryz.prog.underlying 4 = some .bool := by kernel_rfl
theorem psL : Tryz.f6.params.toList = [34, 3, 37] := by kernel_rfl
def R6 (t : TMtTask) (index : Int) (more : Int) (S : SpecF) (_Fr : FreshF) (_Sq : SeqF) (Q : AV → List (List AV) → Prop) : Prop :=
 ∃ b0, S 16 [t.av, AV.int .i64 3] [] (AV.bool b0) [] ∧ ((!b0) = true → ∃ b4, S 12 [] [] (AV.bool b4) [] ∧ Q (AV.bool b4) []) ∧ ((!b0) = false → (((↑(List.map TLmLamp.av t.Catalog.Lamps).length : Int) == (0 : Int)) = true → ∃ b6, S 12 [] [] (AV.bool b6) [] ∧ Q (AV.bool b6) []) ∧ (((↑(List.map TLmLamp.av t.Catalog.Lamps).length : Int) == (0 : Int)) = false → ((0 : Int) ≤ (↑(List.map TMtItem.av t.Items).length : Int) ∧ (↑(List.map TMtItem.av t.Items).length : Int) ≤ (↑(List.map TMtItem.av t.Items).length : Int) ∧ ((↑(List.map TMtItem.av t.Items).length : Int) + (1 : Int)) * 9 ≤ (281474976710656 : Int)) ∧ ((0 : Nat) + (↑(List.map TMtItem.av t.Items).length : Int).toNat * (1 : Nat) ≤ (List.replicate (↑(List.map TMtItem.av t.Items).length : Int).toNat [AV.int .i64 0]).flatten.length ∧ ones (List.replicate (↑(List.map TMtItem.av t.Items).length : Int).toNat [AV.int .i64 0]).flatten = true) ∧ ∃ es8, (es8.length = (↑(List.map TMtItem.av t.Items).length : Int).toNat ∧ List.flatMap AV.cells es8 = List.drop (0 : Nat) (List.replicate (↑(List.map TMtItem.av t.Items).length : Int).toNat [AV.int .i64 0]).flatten ∧ elemsA (1 : Nat) (isAggT Tryz.prog (3 : Nat)) es8) ∧ ∃ n10 n11 n12, S 17 [t.av, AV.int .i64 index, AV.slc 3 es8] [] (AV.tup [AV.agg [AV.int .i64 n10, AV.int .i64 n11], AV.int .i64 n12]) [] ∧ ((n12 != 0) = true → ∃ b16, S 12 [] [] (AV.bool b16) [] ∧ Q (AV.bool b16) []) ∧ ((n12 != 0) = false → elemsOf (14 : Nat) (List.map TLmLamp.av t.Catalog.Lamps) ∧ ((([] : List AV) = [] ∨ (0 : Nat) < (List.map TLmLamp.av t.Catalog.Lamps).length) ∧ ((0 : Nat) + (List.map TLmLamp.av t.Catalog.Lamps).length + (512 : Nat)) * 601 ≤ (1125899906842624 : Nat) ∧ elemsOf (14 : Nat) [] ∧ ones (List.flatMap AV.cells (List.map TLmLamp.av t.Catalog.Lamps)) = true ∧ ones [] = true) ∧ ((0 : Int) ≤ (0 : Int) ∧ (0 : Int) < (↑((0 : Nat) + (List.map TLmLamp.av t.Catalog.Lamps).length) : Int) ∧ (14 : Nat) = (14 : Nat)) ∧ ∃ n19, Option.map AV.norm (partA Tryz.prog (3 : Nat) ([] ++ List.flatMap AV.cells (List.map TLmLamp.av t.Catalog.Lamps)) (4 : Nat)) = some (AV.int .i64 n19) ∧ ((0 : Int) ≤ (0 : Int) ∧ (0 : Int) < (↑((0 : Nat) + (List.map TLmLamp.av t.Catalog.Lamps).length) : Int) ∧ (14 : Nat) = (14 : Nat)) ∧ (4 : Nat) + (1 : Nat) ≤ ([] ++ List.flatMap AV.cells (List.map TLmLamp.av t.Catalog.Lamps)).length ∧ (0 : Nat) + ((0 : Nat) + (List.map TLmLamp.av t.Catalog.Lamps).length) * 14 ≤ (setCells ([] ++ List.flatMap AV.cells (List.map TLmLamp.av t.Catalog.Lamps)) (4 : Nat) [AV.int .i64 (if IntKind.i64.wrap (n19 + IntKind.i64.wrap more) < 5000000 then IntKind.i64.wrap (n19 + IntKind.i64.wrap more) else (5000000 : Int))]).length ∧ ∃ es24, (es24.length = (0 : Nat) + (List.map TLmLamp.av t.Catalog.Lamps).length ∧ List.flatMap AV.cells es24 = List.drop (0 : Nat) (setCells ([] ++ List.flatMap AV.cells (List.map TLmLamp.av t.Catalog.Lamps)) (4 : Nat) [AV.int .i64 (if IntKind.i64.wrap (n19 + IntKind.i64.wrap more) < 5000000 then IntKind.i64.wrap (n19 + IntKind.i64.wrap more) else (5000000 : Int))]) ∧ elemsA (14 : Nat) (isAggT Tryz.prog (64 : Nat)) es24) ∧ ∃ n26 n27 n28, S 17 [AV.agg [AV.int .i64 t.City.Lat, AV.int .i64 t.City.Lon, AV.int .i64 t.City.Zone, AV.int .i64 t.City.Altitude.Lo, AV.int .i64 t.City.Altitude.Hi, AV.slc 3 (List.map TLmTable.av t.Catalog.Tables), AV.slc 3 es24, AV.slc 3 (List.map TMtProfile.av t.Profiles), AV.slc 3 (List.map TMtItem.av t.Items), AV.slc 3 (List.map TMtMeter.av t.Meters)], AV.int .i64 index, AV.slc 3 es8] [] (AV.tup [AV.agg [AV.int .i64 n26, AV.int .i64 n27], AV.int .i64 n28]) [] ∧ ((n28 == 0) = true → (decide (n10 ≤ n26) = true → (decide (n11 ≤ n27) = true → ∃ b36, S 12 [] [] (AV.bool b36) [] ∧ Q (AV.bool b36) []) ∧ (decide (n11 ≤ n27) = false → Q (AV.bool false) [])) ∧ (decide (n10 ≤ n26) = false → Q (AV.bool false) [])) ∧ ((n28 == 0) = false → Q (AV.bool false) []))))
theorem r6 (t : TMtTask) (index : Int) (more : Int) (S : SpecF) (Fr : FreshF) (Sq : SeqF) (Q : AV → List (List AV) → Prop) : awpF Tryz.prog (mkS Tryz.prog S Fr Sq ⟨[], [], [], [], []⟩ 0) 0 ⟨[0, 1, 2, 3, 6, 7, 8, 9, 10, 11, 21, 35], [], [], [(4, 999000007), (10, 2006000003)]⟩ Tryz.f6 [t.av, .int .i64 index, .int .u16 more] [] Q = R6 t index more S Fr Sq Q := by kernel_rfl
theorem s6 (t : TMtTask) (index : Int) (more : Int) (v : AV) (O : List (List AV)) (h : R6 t index more (SpecOf Tryz.prog) (FreshOf Tryz.prog) (SeqOf Tryz.prog) (fun r O' => r = v ∧ O' = O)) : SpecOf Tryz.prog 6 [t.av, .int .i64 index, .int .u16 more] [] v O :=
 spec_by (boxes := []) mixed (by exact trivial) Tryz.func6 Tryz.call6 rfl rfl rfl (Nat.le_of_ble_eq_true rfl) (r6 t index more (SpecOf Tryz.prog) (FreshOf Tryz.prog) (SeqOf Tryz.prog) _) h
theorem items_few {t : TMtTask} (h : t.Ok) : t.Items.length ≤ 2 ^ 41 := by
 have e : reachBytes = 140737488351232 := by rfl
 unfold TMtTask.Ok at h
 rw [e] at h
 have := h.2.2.2.1.2.2
 omega
theorem agg3 : isAggT Tryz.prog 3 = false := by kernel_rfl
theorem agg64 : isAggT Tryz.prog 64 = true := by kernel_rfl
theorem part3 (cs : List AV) (off : Nat) : partA Tryz.prog 3 cs off = cs[off]? := by
 have : Tryz.prog.underlying 3 = some (.int .i64) := by kernel_rfl
 simp only [partA, this]
theorem flat_at {α : Type} {f : α → AV} {g : α → List AV} {k : Nat} (hf : ∀ x, f x = .agg (g x)) (hk : ∀ x, (g x).length = k) {l : List α} {j : Nat} {x : α} (h : l[0]? = some x) (hj : j < k) : ((l.map f).flatMap AV.cells)[j]? = (g x)[j]? := by
 cases l with
 | nil => simp at h
 | cons y r =>
  simp only [List.getElem?_cons_zero, Option.some.injEq] at h
  subst h
  rw [List.map_cons, List.flatMap_cons, hf]
  exact List.getElem?_append_left (by rw [AV.cells, hk]; exact hj)
theorem zeros (n : Nat) : (List.replicate n [AV.int .i64 0]).flatten = (List.replicate n (0 : Int)).map (AV.int .i64) := by
 induction n with
 | zero => rfl
 | succ n ih => rw [List.replicate_succ, List.replicate_succ, List.flatten_cons, ih]; rfl
theorem lampsF (l : List TLmLamp) : elemsOf 14 (l.map TLmLamp.av) ∧ ((l.map TLmLamp.av).flatMap AV.cells).length = l.length * 14 ∧ ones ((l.map TLmLamp.av).flatMap AV.cells) = true ∧ chunkA 14 l.length ((l.map TLmLamp.av).flatMap AV.cells) = l.map TLmLamp.av := flat_map (f := TLmLamp.av) (g := TLmLamp.cs) (k := 14) (fun _ => rfl) (fun _ => rfl) (fun _ => rfl) l
theorem c6 (t : TMtTask) (ht : t.Ok) (index more : Int) (hm : InK .u16 more) : Sp 6 [t.av, .int .i64 index, .int .u16 more] [] (.bool true) [] := s6 t index more _ _ (by
 obtain ⟨hT, hi, _, hmn⟩ := taskOK_of ht
 have hi' := items_few ht
 have hmo := u16_of hm
 unfold R6
 simp only [List.length_map, zeros, Int.toNat_natCast, List.nil_append, Nat.zero_add, List.drop_zero]
 have aw : (∃ b : Bool, SpecOf Tryz.prog 12 [] [] (.bool b) [] ∧ (AV.bool b = .bool true ∧ True)) := ⟨_, c12, rfl, trivial⟩
 refine ⟨_, c16 t (by omega) 3, fun _ => aw, fun _ => ⟨fun _ => aw, fun hz => ?_⟩⟩
 have hL : 0 < t.Catalog.Lamps.length := by
  have : (t.Catalog.Lamps.length : Int) ≠ 0 := by simpa using hz
  omega
 obtain ⟨x, hx⟩ : ∃ x, t.Catalog.Lamps[0]? = some x := ⟨t.Catalog.Lamps[0], List.getElem?_eq_getElem hL⟩
 have k17 := c17 t hT (by omega) index (List.replicate t.Items.length 0) (by rw [List.length_replicate]; omega)
 refine ⟨⟨by omega, by omega, by omega⟩, ⟨by rw [List.length_replicate]; omega, onesI _⟩, (List.replicate t.Items.length (0 : Int)).map (AV.int .i64), ⟨by rw [List.length_map, List.length_replicate], flatI _, fun v hv => ?_⟩, _, _, _, k17, fun _ => aw, fun h => ?_⟩
 ·rw [agg3]
  obtain ⟨n, _, rfl⟩ := List.mem_map.1 hv
  simp only [Bool.false_eq_true, if_false]; rfl
 have h : (savedR t index (List.replicate t.Items.length 0)).2 = 0 := by simpa using h
 have hcat : (catR t.Catalog).2.2 = 0 := by
  have h1 := h
  unfold savedR at h1
  split at h1
  ·rename_i hh; exact absurd h1 hh
  ·rename_i a1
   exact (accE_zero (by omega) (Decidable.byContradiction a1)).1.cat
 obtain ⟨_, hl20, _⟩ := catR_parts hcat
 have hp := (lampV_of (errAt_zero (cat_lamps hcat) hx).2.2).power
 have hF := lampsF t.Catalog.Lamps
 have e1 : IntKind.i64.wrap more = more := i64 (by omega)
 have e2 : IntKind.i64.wrap (x.Power + more) = x.Power + more := i64 (by omega)
 obtain ⟨p, hpp⟩ : ∃ p, p = if x.Power + more < 5000000 then x.Power + more else 5000000 := ⟨_, rfl⟩
 have hp1 : x.Power ≤ p ∧ p ≤ 5000000 := by rw [hpp]; split <;> omega
 have hset := setCells_at (f := TLmLamp.av) (g := TLmLamp.cs) (k := 14) (fun _ => rfl) (fun _ => rfl) (i := 0) (j := 4) (x' := { x with Power := p }) (v := .int .i64 p) hx (by decide) rfl
 rw [Nat.zero_mul, Nat.zero_add] at hset
 have hF2 := lampsF (t.Catalog.Lamps.set 0 { x with Power := p })
 rw [List.length_set] at hF2
 obtain ⟨s1, s2⟩ := stronger rfl (by omega) h hx hp1.1 hp1.2
 refine ⟨hF.1, ⟨.inl (by trivial), by omega, fun v hv => (by cases hv), hF.2.2.1, by trivial⟩, ⟨by trivial, by omega, by trivial⟩, x.Power, ?_, ⟨by trivial, by omega, by trivial⟩, by rw [hF.2.1]; omega, ?_⟩
 ·rw [part3, flat_at (f := TLmLamp.av) (g := TLmLamp.cs) (k := 14) (fun _ => rfl) (fun _ => rfl) hx (by decide)]; rfl
 rw [e1, e2, ← hpp, hset]
 refine ⟨by rw [hF2.2.1]; omega, (t.Catalog.Lamps.set 0 { x with Power := p }).map TLmLamp.av, ⟨by rw [List.length_map, List.length_set], rfl, ?_⟩, _, _, _, c17 (strongT t x p) ?_ (by show t.Meters.length ≤ _; omega) index (List.replicate t.Items.length 0) (by rw [List.length_replicate]; omega), ?_⟩
 ·rw [agg64]; exact elemsA_map (f := TLmLamp.av) (g := TLmLamp.cs) (fun _ => rfl) (fun _ => rfl) _
 ·refine ⟨⟨hT.cat.1, fun y hy => ?_, hT.cat.2.2.1, ?_⟩, hT.prn, hT.men, hT.itn, hT.stl⟩
  ·rcases List.mem_or_eq_of_mem_set hy with hy | rfl
   ·exact hT.cat.2.1 y hy
   ·exact hT.cat.2.1 x (List.mem_of_getElem? hx)
  ·show (t.Catalog.Lamps.set 0 _).length ≤ _; rw [List.length_set]; exact hT.cat.2.2.2
 ·rw [s1]
  refine ⟨fun _ => ⟨fun _ => ⟨fun _ => aw, fun q => ?_⟩, fun q => ?_⟩, fun q => (by cases q)⟩
  ·exact absurd s2.2 (of_decide_eq_false q)
  ·exact absurd s2.1 (of_decide_eq_false q))
set_option maxRecDepth 100000 in
theorem lifted (os : Os) (started : os.Started) (H : Type) (enc : TypeId × Value → H) :
  ReturnsInHanded {} Tryz.checked os 6 .any (Rows.meterStrongerSpec.pre6 enc Tryz.prog Tryz.f6 Rows.meterStrongerRow.domain false) (Rows.meterStrongerSpec.post enc Tryz.prog Tryz.f6 false true false false) := by
 refine returnsInHanded_of_change_sized (C := Tryz.checked) own started (by kernel_rfl) Tryz.func6
  (ChangeSpec.witness6 (enc := enc) (C := Tryz.checked) false ⟨#[], #[.agg #[.int .i64 0, .int .i64 0, .int .i64 0, .int .i64 0, .int .i64 0, .slice none 0 0, .slice none 0 0, .slice none 0 0, .slice none 0 0, .slice none 0 0], .int .i64 0, .int .u16 0], []⟩ 8 (by kernel_rfl) (by kernel_rfl) (by kernel_rfl) (by kernel_rfl)) ?_
 intro W base args ds gs before hval0 hW hcnd hsz _
 have hval : ∀ (j : Nat) t v, Tryz.f6.params[j]? = some t → args[j]? = some v → Value.okWide Tryz.prog W .any base t v := hval0
 have hW' := hW
 obtain ⟨p, q, hA0, hV, rfl, hfz, hnd⟩ := hW
 have hA : DataW.TrodAll enc Tryz.prog W 0 (fun _ => true) true Tryz.f6.params.toList args.toList ds p := hA0
 rw [psL] at hA
 have hval : ∀ (j : Nat) t v, ([34, 3, 37] : List TypeId)[j]? = some t → args.toList[j]? = some v → Value.okWide Tryz.prog W .any base t v := fun j t v h1 h2 => hval j t v (by rw [← Array.getElem?_toList, psL]; exact h1) (by rw [← Array.getElem?_toList]; exact h2)
 have r := hA
 obtain ⟨v0, vs0, d0, ds0, p0, q0, hargs, rfl, rfl, h0, r⟩ := trodAll_cons r
 obtain ⟨v1, vs1, d1, ds1, p1, q1, rfl, rfl, rfl, h1, r⟩ := trodAll_cons r
 obtain ⟨v2, vs2, d2, ds2, p2, q2, rfl, rfl, rfl, h2, r⟩ := trodAll_cons r
 obtain ⟨rfl, rfl, rfl⟩ := trodAll_nil r
 obtain rfl : args = #[v0, v1, v2] := by cases args; simp_all
 obtain ⟨rfl, rfl⟩ := trodVars_none hV
 have lt0 : ∀ x ∈ p0, x.block < W.heap.size := by obtain ⟨m, hm⟩ := h0; exact DataW.trod_lt m _ _ _ hm
 obtain ⟨_, a0, c0, e0⟩ := arg_open (D := 8) (by kernel_rfl) h0 (fun n hn => of_decide_eq_true (List.all_eq_true.1 hsz n (DataW.weights_mem_each (j := 0) (t := 34) (by kernel_rfl) rfl n hn))) (hval 0 34 v0 rfl rfl)
 rw [show isAggT Tryz.prog 34 = true by kernel_rfl] at e0
 obtain ⟨t, rfl, ht⟩ := op34 c0
 have lt1 : ∀ x ∈ p1, x.block < W.heap.size := by obtain ⟨m, hm⟩ := h1; exact DataW.trod_lt m _ _ _ hm
 obtain ⟨_, a1, c1, e1⟩ := arg_open (D := 8) (by kernel_rfl) h1 (fun n hn => of_decide_eq_true (List.all_eq_true.1 hsz n (DataW.weights_mem_each (j := 1) (t := 3) (by kernel_rfl) rfl n hn))) (hval 1 3 v1 rfl rfl)
 rw [show isAggT Tryz.prog 3 = false by kernel_rfl] at e1
 obtain ⟨n1, rfl, hn1⟩ := cells_int (k := .i64) (by kernel_rfl) c1
 have lt2 : ∀ x ∈ p2, x.block < W.heap.size := by obtain ⟨m, hm⟩ := h2; exact DataW.trod_lt m _ _ _ hm
 obtain ⟨_, a2, c2, e2⟩ := arg_open (D := 8) (by kernel_rfl) h2 (fun n hn => of_decide_eq_true (List.all_eq_true.1 hsz n (DataW.weights_mem_each (j := 2) (t := 37) (by kernel_rfl) rfl n hn))) (hval 2 37 v2 rfl rfl)
 rw [show isAggT Tryz.prog 37 = false by kernel_rfl] at e2
 obtain ⟨n2, rfl, hn2⟩ := cells_int (k := .u16) (by kernel_rfl) c2
 have hr : Rvs (ofHeap W) none [t.av, .int .i64 n1, .int .u16 n2] #[v0, v1, v2] := ⟨rfl, fun j => by
  match j with
  | 0 => exact e0
  | 1 => exact e1
  | 2 => exact e2
  | j + 3 => exact .undef ..⟩
 refine (law_calls (c6 t ht n1 n2 hn2) hr).mono fun e W' ⟨he, bel⟩ => ?_
 subst he
 exact ⟨_, rfl, _, _, _, [], _, [], hW', trodAll_mk1 (shut_bool un4 _), (trodAll_cons_mk (Below.trod laidOut (by kernel_rfl) (of_decide_eq_true (by kernel_rfl)) h0 bel lt0) (trodAll_cons_mk (Below.trod laidOut (by kernel_rfl) (of_decide_eq_true (by kernel_rfl)) h1 bel lt1) (trodAll_cons_mk (Below.trod laidOut (by kernel_rfl) (of_decide_eq_true (by kernel_rfl)) h2 bel lt2) trodAll_mk0))), rfl, bel.frame _, fun h => by cases h⟩
theorem over : Rows.meterStrongerRow.holds Tryz.pinned (OpenSpec.ofChange Rows.meterStrongerSpec) :=
 OpenClaim.holds_of_wide 6 Tryz.f6 rfl rfl rfl rfl rfl rfl rfl ⟨rfl, rfl, rfl, rfl, rfl⟩ rfl rfl rfl rfl rfl (by kernel_rfl) Tryz.func6 (by kernel_rfl)
  (of_decide_eq_true (by kernel_rfl)) (by unfold Func.isWrapper; first | (rw [if_pos (by decide +kernel)]; kernel_rfl) | (rw [if_neg (by decide +kernel)]; exact ⟨rfl, rfl⟩))
  (fun os started H enc _ => lifted os started H enc)
theorem proved : Rows.MeterStrongerSaid := over
#print axioms proved
end Go.Proofs.YtblebiafhhhflaaGreat.meterStrongerDone

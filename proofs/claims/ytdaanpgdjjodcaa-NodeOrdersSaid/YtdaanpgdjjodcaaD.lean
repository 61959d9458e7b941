/- Contracts: the night of a day, the light. -/
import Derived.Test.YtdaanpgdjjodcaaC
namespace Go.Proofs.Ytdaanpgdjjodcaa
open Go.RowKit
def SOK (s : TNdState) : Prop := (0 ≤ s.Plan.First ∧ s.Plan.First ≤ 40000) ∧ s.Plan.Nights.length ≤ 40 ∧ 0 ≤ s.Time ∧ s.Time ≤ 4000000000
theorem i64 {n : Int} (h : -9223372036854775808 ≤ n ∧ n ≤ 9223372036854775807) : IntKind.i64.wrap n = n := IntWalk.i64_in n (by omega)
def R57 (n : TNode) (day : Int) (S : SpecF) (Fr : FuncId → List AV → Nat → List AV → Prop) (Q : AV → List (List AV) → Prop) : Prop :=
  ∃ b0, S (38 : Nat) [AV.int IntKind.i64 (IntKind.i64.wrap (day - n.NdState.Plan.First)), AV.int IntKind.i64 (0 : Int), AV.int IntKind.i64 (IntKind.i64.wrap ((↑(List.map TSnNight.av n.NdState.Plan.Nights).length : Int) - (1 : Int)))] [] (AV.bool b0) [] ∧ (b0 = true → ∃ n4 n5, ((0 : Int) ≤ IntKind.i64.wrap (day - n.NdState.Plan.First) ∧ (2 : Nat) = (2 : Nat) ∧ (List.map TSnNight.av n.NdState.Plan.Nights)[(IntKind.i64.wrap (day - n.NdState.Plan.First)).toNat]? = some (AV.agg [AV.int IntKind.i64 n4, AV.int IntKind.i64 n5])) ∧ Q (AV.agg [AV.int IntKind.i64 n4, AV.int IntKind.i64 n5]) [n.cs]) ∧ (b0 = false → Q (n.set'.Default.av) [n.cs])
theorem r57 (n : TNode) (day : Int) (S : SpecF) (Fr : FuncId → List AV → Nat → List AV → Prop) (Q : AV → List (List AV) → Prop) : awpF Try.prog ⟨S, Fr, ⟨[], [], []⟩⟩ 1 ⟨[0, 1, 4, 5, 23], [], [], []⟩ Try.f57 [.ref 0 0, .int .i64 day] [⟨86, false, n.cs⟩] Q = R57 n day S Fr Q := by kernel_rfl
theorem s57 (n : TNode) (day : Int) (v : AV) (O : List (List AV)) (h : R57 n day (SpecOf Try.prog) (FreshOf Try.prog) (fun r O' => r = v ∧ O' = O)) : SpecOf Try.prog 57 [.ref 0 0, .int .i64 day] [n.cs] v O :=
  spec_by (boxes := [⟨86, false, n.cs⟩]) mixed Try.func57 Try.call57 rfl rfl rfl (Nat.le_of_ble_eq_true rfl) (r57 n day (SpecOf Try.prog) (FreshOf Try.prog) _) h
theorem c57 (n : TNode) (day : Int) (h : SOK n.NdState) (hd : -100 ≤ day ∧ day ≤ 100000) : Sp 57 [.ref 0 0, .int .i64 day] [n.cs] (keptN n.set' n.NdState day).av [n.cs] := s57 n day _ _ (by
  obtain ⟨⟨h1, h2⟩, h3, h4, h5⟩ := h
  have e1 : IntKind.i64.wrap (day - n.NdState.Plan.First) = day - n.NdState.Plan.First := i64 (by omega)
  have e2 : IntKind.i64.wrap (((List.map TSnNight.av n.NdState.Plan.Nights).length : Int) - 1) = (n.NdState.Plan.Nights.length : Int) - 1 := by rw [List.length_map]; exact i64 (by omega)
  unfold R57; rw [e1, e2]
  refine ⟨_, c38 _ _ _, fun hb => ?_, fun hb => ⟨?_, rfl⟩⟩
  · have hb' := inB_iff.1 hb
    obtain ⟨x, hx, hx'⟩ := map_get (f := TSnNight.av) (l := n.NdState.Plan.Nights) (n := day - n.NdState.Plan.First) hb'.1 (by omega)
    refine ⟨x.On, x.Off, ⟨hb'.1, rfl, hx'⟩, ?_, rfl⟩
    rw [keptN, if_pos hb]; simp only [List.getD, hx]; rfl
  · rw [keptN, if_neg (by simp [hb])])
def R58 (c : TNdSet) (s : TNdState) (day : Int) (S : SpecF) (Fr : FuncId → List AV → Nat → List AV → Prop) (Q : AV → List (List AV) → Prop) : Prop :=
  ∃ b0, S (52 : Nat) [AV.int IntKind.i64 day, AV.int IntKind.i64 s.Plan.First, AV.int IntKind.i64 (IntKind.i64.wrap (IntKind.i64.wrap (s.Plan.First + (↑(List.map TSnNight.av s.Plan.Nights).length : Int)) - (1 : Int)))] [] (AV.bool b0) [] ∧ (b0 = true → ∃ n4 n5, ((0 : Int) ≤ IntKind.i64.wrap (day - s.Plan.First) ∧ (2 : Nat) = (2 : Nat) ∧ (List.map TSnNight.av s.Plan.Nights)[(IntKind.i64.wrap (day - s.Plan.First)).toNat]? = some (AV.agg [AV.int IntKind.i64 n4, AV.int IntKind.i64 n5])) ∧ Q (AV.agg [AV.int IntKind.i64 n4, AV.int IntKind.i64 n5]) []) ∧ (b0 = false → Q (c.Default.av) [])
theorem r58 (c : TNdSet) (s : TNdState) (day : Int) (S : SpecF) (Fr : FuncId → List AV → Nat → List AV → Prop) (Q : AV → List (List AV) → Prop) : awpF Try.prog ⟨S, Fr, ⟨[], [], []⟩⟩ 0 ⟨[0, 1, 2, 3, 4, 6, 20], [], [], []⟩ Try.f58 [c.av, s.av, .int .i64 day] [] Q = R58 c s day S Fr Q := by kernel_rfl
theorem s58 (c : TNdSet) (s : TNdState) (day : Int) (v : AV) (O : List (List AV)) (h : R58 c s day (SpecOf Try.prog) (FreshOf Try.prog) (fun r O' => r = v ∧ O' = O)) : SpecOf Try.prog 58 [c.av, s.av, .int .i64 day] [] v O :=
  spec_by (boxes := []) mixed Try.func58 Try.call58 rfl rfl rfl (Nat.le_of_ble_eq_true rfl) (r58 c s day (SpecOf Try.prog) (FreshOf Try.prog) _) h
theorem c58 (c : TNdSet) (s : TNdState) (day : Int) (h : SOK s) (hd : -100 ≤ day ∧ day ≤ 100000) : Sp 58 [c.av, s.av, .int .i64 day] [] (keptN c s day).av [] := s58 c s day _ _ (by
  obtain ⟨⟨h1, h2⟩, h3, h4, h5⟩ := h
  have e1 : IntKind.i64.wrap (day - s.Plan.First) = day - s.Plan.First := i64 (by omega)
  have e3 : IntKind.i64.wrap (s.Plan.First + ((List.map TSnNight.av s.Plan.Nights).length : Int)) = s.Plan.First + (s.Plan.Nights.length : Int) := by rw [List.length_map]; exact i64 (by omega)
  have e2 : IntKind.i64.wrap (s.Plan.First + (s.Plan.Nights.length : Int) - 1) = s.Plan.First + (s.Plan.Nights.length : Int) - 1 := i64 (by omega)
  have e4 : inB day s.Plan.First (s.Plan.First + (s.Plan.Nights.length : Int) - 1) = inB (day - s.Plan.First) 0 ((s.Plan.Nights.length : Int) - 1) := by
    rw [Bool.eq_iff_iff, inB_iff, inB_iff]; omega
  unfold R58; rw [e1, e3, e2]
  refine ⟨_, c52 _ _ _, fun hb => ?_, fun hb => ⟨?_, rfl⟩⟩
  · rw [e4] at hb
    have hb' := inB_iff.1 hb
    obtain ⟨x, hx, hx'⟩ := map_get (f := TSnNight.av) (l := s.Plan.Nights) (n := day - s.Plan.First) hb'.1 (by omega)
    refine ⟨x.On, x.Off, ⟨hb'.1, rfl, hx'⟩, ?_, rfl⟩
    rw [keptN, if_pos hb]; simp only [List.getD, hx]; rfl
  · rw [e4] at hb; rw [keptN, if_neg (by simp [hb])])
def R67 (h0 : TNdHold) (v0 : TNode) (S : SpecF) (Fr : FuncId → List AV → Nat → List AV → Prop) (Q : AV → List (List AV) → Prop) : Prop :=
  (v0.NdState.Clock = true → (decide (h0.From ≤ v0.NdState.Time) = true → Q (AV.bool (decide (v0.NdState.Time < h0.Until))) [[AV.ref (1 : Nat) (0 : Nat)], v0.cs]) ∧ (decide (h0.From ≤ v0.NdState.Time) = false → Q (AV.bool false) [[AV.ref (1 : Nat) (0 : Nat)], v0.cs])) ∧ (v0.NdState.Clock = false → Q (AV.bool false) [[AV.ref (1 : Nat) (0 : Nat)], v0.cs])
theorem r67 (h0 : TNdHold) (v0 : TNode) (S : SpecF) (Fr : FuncId → List AV → Nat → List AV → Prop) (Q : AV → List (List AV) → Prop) : awpF Try.prog ⟨S, Fr, ⟨[], [], []⟩⟩ 2 ⟨[0, 1, 2, 3], [], [], []⟩ Try.f67 [h0.av, .ref 0 0] [⟨80, false, [.ref 1 0]⟩, ⟨86, false, v0.cs⟩] Q = R67 h0 v0 S Fr Q := by kernel_rfl
theorem s67 (h0 : TNdHold) (v0 : TNode) (v : AV) (O : List (List AV)) (h : R67 h0 v0 (SpecOf Try.prog) (FreshOf Try.prog) (fun r O' => r = v ∧ O' = O)) : SpecOf Try.prog 67 [h0.av, .ref 0 0] [[.ref 1 0], v0.cs] v O :=
  spec_by (boxes := [⟨80, false, [.ref 1 0]⟩, ⟨86, false, v0.cs⟩]) mixed Try.func67 Try.call67 rfl rfl rfl (Nat.le_of_ble_eq_true rfl) (r67 h0 v0 (SpecOf Try.prog) (FreshOf Try.prog) _) h
theorem c67 (h : TNdHold) (n : TNode) : Sp 67 [h.av, .ref 0 0] [[.ref 1 0], n.cs] (.bool (activeB n.NdState h)) [[.ref 1 0], n.cs] := s67 h n _ _ (by
  refine ⟨fun h1 => ⟨fun h2 => ⟨?_, rfl⟩, fun h2 => ⟨?_, rfl⟩⟩, fun h1 => ⟨?_, rfl⟩⟩
  · simp only [activeB, h1, h2, Bool.true_and]
  · simp only [activeB, h1, h2, Bool.true_and, Bool.false_and]
  · simp only [activeB, h1, Bool.false_and])
def R70 (s : TNdState) (h1 : TNdHold) (S : SpecF) (Fr : FuncId → List AV → Nat → List AV → Prop) (Q : AV → List (List AV) → Prop) : Prop :=
  (s.Clock = true → (decide (s.Time ≥ h1.From) = true → Q (AV.bool (decide (s.Time < h1.Until))) []) ∧ (decide (s.Time ≥ h1.From) = false → Q (AV.bool false) [])) ∧ (s.Clock = false → Q (AV.bool false) [])
theorem r70 (s : TNdState) (h1 : TNdHold) (S : SpecF) (Fr : FuncId → List AV → Nat → List AV → Prop) (Q : AV → List (List AV) → Prop) : awpF Try.prog ⟨S, Fr, ⟨[], [], []⟩⟩ 0 ⟨[0, 1, 2, 3, 4], [], [], []⟩ Try.f70 [s.av, h1.av] [] Q = R70 s h1 S Fr Q := by kernel_rfl
theorem s70 (s : TNdState) (h1 : TNdHold) (v : AV) (O : List (List AV)) (h : R70 s h1 (SpecOf Try.prog) (FreshOf Try.prog) (fun r O' => r = v ∧ O' = O)) : SpecOf Try.prog 70 [s.av, h1.av] [] v O :=
  spec_by (boxes := []) mixed Try.func70 Try.call70 rfl rfl rfl (Nat.le_of_ble_eq_true rfl) (r70 s h1 (SpecOf Try.prog) (FreshOf Try.prog) _) h
theorem c70 (s : TNdState) (h : TNdHold) : Sp 70 [s.av, h.av] [] (.bool (activeB s h)) [] := s70 s h _ _ (by
  refine ⟨fun h1 => ⟨fun h2 => ⟨?_, rfl⟩, fun h2 => ⟨?_, rfl⟩⟩, fun h1 => ⟨?_, rfl⟩⟩
  · have h2 : decide (h.From ≤ s.Time) = true := h2
    simp only [activeB, h1, h2, Bool.true_and]
  · have h2 : decide (h.From ≤ s.Time) = false := h2
    simp only [activeB, h1, h2, Bool.true_and, Bool.false_and]
  · simp only [activeB, h1, Bool.false_and])
def R68 (day : Int) (v0 : TNode) (S : SpecF) (Fr : FuncId → List AV → Nat → List AV → Prop) (Q : AV → List (List AV) → Prop) : Prop :=
  ∃ n0 n1, S (57 : Nat) [AV.ref (0 : Nat) (0 : Nat), AV.int IntKind.i64 day] [v0.cs] (AV.agg [AV.int IntKind.i64 n0, AV.int IntKind.i64 n1]) [v0.cs] ∧ (decide (day ≥ (0 : Int)) = true → (decide (n0 ≤ IntKind.i64.wrap (v0.NdState.Time - IntKind.i64.wrap (day * (86400 : Int)))) = true → Q (AV.bool (decide (IntKind.i64.wrap (v0.NdState.Time - IntKind.i64.wrap (day * (86400 : Int))) < n1))) [[AV.ref (1 : Nat) (0 : Nat)], v0.cs]) ∧ (decide (n0 ≤ IntKind.i64.wrap (v0.NdState.Time - IntKind.i64.wrap (day * (86400 : Int)))) = false → Q (AV.bool false) [[AV.ref (1 : Nat) (0 : Nat)], v0.cs])) ∧ (decide (day ≥ (0 : Int)) = false → Q (AV.bool false) [[AV.ref (1 : Nat) (0 : Nat)], v0.cs])
theorem r68 (day : Int) (v0 : TNode) (S : SpecF) (Fr : FuncId → List AV → Nat → List AV → Prop) (Q : AV → List (List AV) → Prop) : awpF Try.prog ⟨S, Fr, ⟨[], [], [57]⟩⟩ 2 ⟨[0, 1, 3, 4, 5], [], [], []⟩ Try.f68 [.int .i64 day, .ref 0 0] [⟨80, false, [.ref 1 0]⟩, ⟨86, false, v0.cs⟩] Q = R68 day v0 S Fr Q := by kernel_rfl
theorem s68 (day : Int) (v0 : TNode) (v : AV) (O : List (List AV)) (h : R68 day v0 (SpecOf Try.prog) (FreshOf Try.prog) (fun r O' => r = v ∧ O' = O)) : SpecOf Try.prog 68 [.int .i64 day, .ref 0 0] [[.ref 1 0], v0.cs] v O :=
  spec_by (boxes := [⟨80, false, [.ref 1 0]⟩, ⟨86, false, v0.cs⟩]) mixed Try.func68 Try.call68 rfl rfl rfl (Nat.le_of_ble_eq_true rfl) (r68 day v0 (SpecOf Try.prog) (FreshOf Try.prog) _) h
theorem c68 (day : Int) (n : TNode) (h : SOK n.NdState) (hd : -100 ≤ day ∧ day ≤ 100000) : Sp 68 [.int .i64 day, .ref 0 0] [[.ref 1 0], n.cs] (.bool (hasB n.set' n.NdState day)) [[.ref 1 0], n.cs] := s68 day n _ _ (by
  have h' := h
  obtain ⟨⟨h1, h2⟩, h3, h4, h5⟩ := h'
  have e1 : IntKind.i64.wrap (day * 86400) = day * 86400 := i64 (by omega)
  have e2 : IntKind.i64.wrap (n.NdState.Time - day * 86400) = n.NdState.Time - day * 86400 := i64 (by omega)
  unfold R68; rw [e1, e2]
  refine ⟨_, _, c57 n day h hd, fun g1 => ⟨fun g2 => ⟨?_, rfl⟩, fun g2 => ⟨?_, rfl⟩⟩, fun g1 => ⟨?_, rfl⟩⟩
  · have g1 : decide (0 ≤ day) = true := g1
    simp only [hasB, g1, g2, Bool.true_and]
  · have g1 : decide (0 ≤ day) = true := g1
    simp only [hasB, g1, g2, Bool.true_and, Bool.false_and]
  · have g1 : decide (0 ≤ day) = false := g1
    simp only [hasB, g1, Bool.false_and])
def R69 (c : TNdSet) (s : TNdState) (S : SpecF) (Fr : FuncId → List AV → Nat → List AV → Prop) (Q : AV → List (List AV) → Prop) : Prop :=
  ((!s.Clock) = true → Q (AV.bool false) []) ∧ ((!s.Clock) = false → ∃ (I2 : Nat → List AV → Prop), (∃ m4, I2 m4 [AV.int IntKind.i64 (if (0 : Int) > IntKind.i64.wrap (IntKind.i64.wrap (s.Time.tdiv (86400 : Int)) - (1 : Int)) then (0 : Int) else IntKind.i64.wrap (IntKind.i64.wrap (s.Time.tdiv (86400 : Int)) - (1 : Int)))]) ∧ ∀ (m4 : Nat) (n5 : Int), I2 m4 [AV.int IntKind.i64 n5] → (decide (n5 ≤ IntKind.i64.wrap (s.Time.tdiv (86400 : Int))) = true → ∃ n9 n10, S (58 : Nat) [c.av, s.av, AV.int IntKind.i64 n5] [] (AV.agg [AV.int IntKind.i64 n9, AV.int IntKind.i64 n10]) [] ∧ (decide (IntKind.i64.wrap (s.Time - IntKind.i64.wrap (n5 * (86400 : Int))) ≥ n9) = true → (decide (IntKind.i64.wrap (s.Time - IntKind.i64.wrap (n5 * (86400 : Int))) < n10) = true → Q (AV.bool true) []) ∧ (decide (IntKind.i64.wrap (s.Time - IntKind.i64.wrap (n5 * (86400 : Int))) < n10) = false → c.cs = c.cs ∧ s.cs = s.cs ∧ ∃ k18, k18 < m4 ∧ I2 k18 [AV.int IntKind.i64 (IntKind.i64.wrap (n5 + (1 : Int)))])) ∧ (decide (IntKind.i64.wrap (s.Time - IntKind.i64.wrap (n5 * (86400 : Int))) ≥ n9) = false → c.cs = c.cs ∧ s.cs = s.cs ∧ ∃ k16, k16 < m4 ∧ I2 k16 [AV.int IntKind.i64 (IntKind.i64.wrap (n5 + (1 : Int)))])) ∧ (decide (n5 ≤ IntKind.i64.wrap (s.Time.tdiv (86400 : Int))) = false → Q (AV.bool false) []))
theorem r69 (c : TNdSet) (s : TNdState) (S : SpecF) (Fr : FuncId → List AV → Nat → List AV → Prop) (Q : AV → List (List AV) → Prop) : awpF Try.prog ⟨S, Fr, ⟨[], [], []⟩⟩ 0 ⟨[0, 1, 2, 3, 4, 5, 6, 7, 8, 11, 20, 41], [⟨5, [(6, .int .i64 0)], [], []⟩], [], []⟩ Try.f69 [c.av, s.av] [] Q = R69 c s S Fr Q := by kernel_rfl
theorem s69 (c : TNdSet) (s : TNdState) (v : AV) (O : List (List AV)) (h : R69 c s (SpecOf Try.prog) (FreshOf Try.prog) (fun r O' => r = v ∧ O' = O)) : SpecOf Try.prog 69 [c.av, s.av] [] v O :=
  spec_by (boxes := []) mixed Try.func69 Try.call69 rfl rfl rfl (Nat.le_of_ble_eq_true rfl) (r69 c s (SpecOf Try.prog) (FreshOf Try.prog) _) h
theorem c69 (c : TNdSet) (s : TNdState) (h : SOK s) : Sp 69 [c.av, s.av] [] (.bool (clockB c s)) [] := s69 c s _ _ (by
  have h' := h
  obtain ⟨⟨h1, h2⟩, h3, h4, h5⟩ := h'
  have e0 : s.Time.tdiv 86400 = s.Time / 86400 := Int.tdiv_eq_ediv_of_nonneg h4
  have e1 : IntKind.i64.wrap (s.Time / 86400) = s.Time / 86400 := i64 (by omega)
  have e2 : IntKind.i64.wrap (s.Time / 86400 - 1) = s.Time / 86400 - 1 := i64 (by omega)
  unfold R69; rw [e0, e1, e2]
  refine ⟨fun g => ⟨?_, rfl⟩, fun g => ?_⟩
  · have g : s.Clock = false := by simpa using g
    simp only [clockB, g, Bool.false_and]
  have g : s.Clock = true := by simpa using g
  generalize hlo : (if (0 : Int) > s.Time / 86400 - 1 then (0 : Int) else s.Time / 86400 - 1) = lo
  have hlo' : 0 ≤ lo ∧ s.Time / 86400 - 1 ≤ lo ∧ lo ≤ s.Time / 86400 ∧ (lo = 0 ∨ lo = s.Time / 86400 - 1) := by subst hlo; split <;> omega
  clear hlo
  refine ⟨fun m vs => ∃ d : Int, vs = [.int .i64 d] ∧ lo ≤ d ∧ d ≤ s.Time / 86400 + 1 ∧ m = (s.Time / 86400 + 1 - d).toNat ∧ ∀ e, lo ≤ e → e < d → hasB c s e = false, ⟨_, lo, rfl, by omega, by omega, rfl, fun e _ _ => by omega⟩, ?_⟩
  rintro m d ⟨d', hd, g1, g2, rfl, g3⟩
  cases hd
  refine ⟨fun g4 => ?_, fun g4 => ⟨?_, rfl⟩⟩
  · have g4 : d ≤ s.Time / 86400 := by simpa using g4
    have e3 : IntKind.i64.wrap (d * 86400) = d * 86400 := i64 (by omega)
    have e4 : IntKind.i64.wrap (s.Time - d * 86400) = s.Time - d * 86400 := i64 (by omega)
    have e5 : IntKind.i64.wrap (d + 1) = d + 1 := i64 (by omega)
    rw [e3, e4, e5]
    have hx : decide (0 ≤ d) = true := by simp; omega
    have next : hasB c s d = false → ∃ k, k < (s.Time / 86400 + 1 - d).toNat ∧ ∃ d1 : Int, [AV.int .i64 (d + 1)] = [.int .i64 d1] ∧ lo ≤ d1 ∧ d1 ≤ s.Time / 86400 + 1 ∧ k = (s.Time / 86400 + 1 - d1).toNat ∧ ∀ e, lo ≤ e → e < d1 → hasB c s e = false := by
      intro hh
      refine ⟨(s.Time / 86400 + 1 - (d + 1)).toNat, by omega, d + 1, rfl, by omega, by omega, rfl, fun e he1 he2 => ?_⟩
      by_cases hed : e = d
      · rw [hed]; exact hh
      · exact g3 e he1 (by omega)
    refine ⟨_, _, c58 c s d h (by omega), fun g5 => ⟨fun g6 => ⟨?_, rfl⟩, fun g6 => ⟨rfl, rfl, next ?_⟩⟩, fun g5 => ⟨rfl, rfl, next ?_⟩⟩
    · have g5 : decide ((keptN c s d).On ≤ s.Time - d * 86400) = true := g5
      have hh : hasB c s d = true := by simp only [hasB, hx, g5, g6, Bool.and_self]
      rcases (by omega : d = s.Time / 86400 ∨ d = s.Time / 86400 - 1) with hd | hd
      · rw [hd] at hh; simp [clockB, g, hh]
      · rw [hd] at hh; simp [clockB, g, hh]
    · simp only [hasB, g6, Bool.and_false]
    · have g5 : decide ((keptN c s d).On ≤ s.Time - d * 86400) = false := g5
      simp only [hasB, g5, Bool.and_false, Bool.false_and]
  · have g4 : s.Time / 86400 < d := by simpa using g4
    have a1 : hasB c s (s.Time / 86400) = false := g3 _ (by omega) (by omega)
    have a2 : hasB c s (s.Time / 86400 - 1) = false := by
      by_cases hl : lo ≤ s.Time / 86400 - 1
      · exact g3 _ hl (by omega)
      · have : ¬ (0 ≤ s.Time / 86400 - 1) := by omega
        simp only [hasB, decide_eq_false this, Bool.false_and]
    simp [clockB, a1, a2])
theorem max_if (a b : Int) : (if b > a then b else a) = max a b := by
  split <;> omega
def R65 (c : TNdSet) (s : TNdState) (S : SpecF) (Fr : FuncId → List AV → Nat → List AV → Prop) (Q : AV → List (List AV) → Prop) : Prop :=
  ∃ (J0 : List AV → Prop), (∃ b2, S (69 : Nat) [c.av, s.av] [] (AV.bool b2) [] ∧ (b2 = true → c.cs = c.cs ∧ s.cs = s.cs ∧ J0 [AV.bool true]) ∧ (b2 = false → ((!s.Broken) = true → (s.Dark = true → c.cs = c.cs ∧ s.cs = s.cs ∧ J0 [AV.bool true]) ∧ (s.Dark = false → ((!s.Clock) = true → c.cs = c.cs ∧ s.cs = s.cs ∧ J0 [AV.bool s.Broken]) ∧ ((!s.Clock) = false → c.cs = c.cs ∧ s.cs = s.cs ∧ J0 [AV.bool false]))) ∧ ((!s.Broken) = false → ((!s.Clock) = true → c.cs = c.cs ∧ s.cs = s.cs ∧ J0 [AV.bool s.Broken]) ∧ ((!s.Clock) = false → c.cs = c.cs ∧ s.cs = s.cs ∧ J0 [AV.bool false])))) ∧ ∀ (b2 : Bool), J0 [AV.bool b2] → (b2 = true → ∃ b6, S (70 : Nat) [s.av, s.Force.av] [] (AV.bool b6) [] ∧ (b6 = true → Q (AV.int IntKind.i64 (1000 : Int)) []) ∧ (b6 = false → (b2 = true → ∃ b12, S (70 : Nat) [s.av, s.Dim.av] [] (AV.bool b12) [] ∧ (b12 = true → Q (AV.int IntKind.i64 (if s.Dim.Level > c.Floor then s.Dim.Level else c.Floor)) []) ∧ (b12 = false → (b2 = true → Q (AV.int IntKind.i64 (1000 : Int)) []) ∧ (b2 = false → ∃ b18, S (70 : Nat) [s.av, s.Force.av] [] (AV.bool b18) [] ∧ (b18 = true → Q (AV.int IntKind.i64 s.Force.Level) []) ∧ (b18 = false → Q (AV.int IntKind.i64 (0 : Int)) [])))) ∧ (b2 = false → (b2 = true → Q (AV.int IntKind.i64 (1000 : Int)) []) ∧ (b2 = false → ∃ b14, S (70 : Nat) [s.av, s.Force.av] [] (AV.bool b14) [] ∧ (b14 = true → Q (AV.int IntKind.i64 s.Force.Level) []) ∧ (b14 = false → Q (AV.int IntKind.i64 (0 : Int)) []))))) ∧ (b2 = false → (b2 = true → ∃ b8, S (70 : Nat) [s.av, s.Dim.av] [] (AV.bool b8) [] ∧ (b8 = true → Q (AV.int IntKind.i64 (if s.Dim.Level > c.Floor then s.Dim.Level else c.Floor)) []) ∧ (b8 = false → (b2 = true → Q (AV.int IntKind.i64 (1000 : Int)) []) ∧ (b2 = false → ∃ b14, S (70 : Nat) [s.av, s.Force.av] [] (AV.bool b14) [] ∧ (b14 = true → Q (AV.int IntKind.i64 s.Force.Level) []) ∧ (b14 = false → Q (AV.int IntKind.i64 (0 : Int)) [])))) ∧ (b2 = false → (b2 = true → Q (AV.int IntKind.i64 (1000 : Int)) []) ∧ (b2 = false → ∃ b10, S (70 : Nat) [s.av, s.Force.av] [] (AV.bool b10) [] ∧ (b10 = true → Q (AV.int IntKind.i64 s.Force.Level) []) ∧ (b10 = false → Q (AV.int IntKind.i64 (0 : Int)) []))))
theorem r65 (c : TNdSet) (s : TNdState) (S : SpecF) (Fr : FuncId → List AV → Nat → List AV → Prop) (Q : AV → List (List AV) → Prop) : awpF Try.prog ⟨S, Fr, ⟨[], [], []⟩⟩ 0 ⟨[0, 1, 2, 3, 4, 5, 27, 35, 49, 51], [], [⟨2, [(5, .bool false)], [], []⟩], []⟩ Try.f65 [c.av, s.av] [] Q = R65 c s S Fr Q := by kernel_rfl
theorem s65 (c : TNdSet) (s : TNdState) (v : AV) (O : List (List AV)) (h : R65 c s (SpecOf Try.prog) (FreshOf Try.prog) (fun r O' => r = v ∧ O' = O)) : SpecOf Try.prog 65 [c.av, s.av] [] v O :=
  spec_by (boxes := []) mixed Try.func65 Try.call65 rfl rfl rfl (Nat.le_of_ble_eq_true rfl) (r65 c s (SpecOf Try.prog) (FreshOf Try.prog) _) h
theorem c65 (c : TNdSet) (s : TNdState) (h : SOK s) : Sp 65 [c.av, s.av] [] (.int .i64 (levelS c s)) [] := s65 c s _ _ (by
  refine ⟨fun vs => vs = [.bool (darkB c s)], ⟨_, c69 c s h, fun g1 => ⟨rfl, rfl, ?_⟩, fun g1 => ⟨fun g2 => ⟨fun g3 => ⟨rfl, rfl, ?_⟩, fun g3 => ⟨fun g4 => ⟨rfl, rfl, ?_⟩, fun g4 => ⟨rfl, rfl, ?_⟩⟩⟩, fun g2 => ⟨fun g4 => ⟨rfl, rfl, ?_⟩, fun g4 => ⟨rfl, rfl, ?_⟩⟩⟩⟩, ?_⟩
  case refine_7 =>
    rintro _ ⟨⟩
    unfold levelS
    generalize darkB c s = b
    cases b with
    | true =>
      refine ⟨fun _ => ⟨_, c70 s s.Force, fun g1 => ⟨?_, rfl⟩, fun g1 => ⟨fun _ => ⟨_, c70 s s.Dim, fun g2 => ⟨?_, rfl⟩, fun g2 => ⟨fun _ => ⟨?_, rfl⟩, fun h => (by cases h)⟩⟩, fun h => (by cases h)⟩⟩, fun h => (by cases h)⟩
      · simp [g1]
      · simp [g1, g2, max_if]
      · simp [g1, g2]
    | false =>
      refine ⟨fun h => (by cases h), fun _ => ⟨fun h => (by cases h), fun _ => ⟨fun h => (by cases h), fun _ => ⟨_, c70 s s.Force, fun g1 => ⟨?_, rfl⟩, fun g1 => ⟨?_, rfl⟩⟩⟩⟩⟩ <;> simp [g1]
  all_goals simp_all [darkB])
def R62 (n : TNode) (S : SpecF) (Fr : FuncId → List AV → Nat → List AV → Prop) (Q : AV → List (List AV) → Prop) : Prop :=
  ∃ (J0 : List AV → Prop), ((n.NdState.Clock = true → ∃ b4, S (68 : Nat) [AV.int IntKind.i64 (IntKind.i64.wrap (n.NdState.Time.tdiv (86400 : Int))), AV.ref (0 : Nat) (0 : Nat)] [[AV.ref (1 : Nat) (0 : Nat)], n.cs] (AV.bool b4) [[AV.ref (1 : Nat) (0 : Nat)], n.cs] ∧ (b4 = true → n.cs = n.cs ∧ [AV.ref (0 : Nat) (0 : Nat)] = [AV.ref (0 : Nat) (0 : Nat)] ∧ J0 [AV.bool true]) ∧ (b4 = false → ∃ b8, S (68 : Nat) [AV.int IntKind.i64 (IntKind.i64.wrap (IntKind.i64.wrap (n.NdState.Time.tdiv (86400 : Int)) - (1 : Int))), AV.ref (0 : Nat) (0 : Nat)] [[AV.ref (1 : Nat) (0 : Nat)], n.cs] (AV.bool b8) [[AV.ref (1 : Nat) (0 : Nat)], n.cs] ∧ n.cs = n.cs ∧ [AV.ref (0 : Nat) (0 : Nat)] = [AV.ref (0 : Nat) (0 : Nat)] ∧ J0 [AV.bool b8])) ∧ (n.NdState.Clock = false → n.cs = n.cs ∧ [AV.ref (0 : Nat) (0 : Nat)] = [AV.ref (0 : Nat) (0 : Nat)] ∧ J0 [AV.bool false])) ∧ ∀ (b2 : Bool), J0 [AV.bool b2] → ∃ (J4 : List AV → Prop), ((n.NdState.Broken = true → (b2 = true → n.cs = n.cs ∧ [AV.ref (0 : Nat) (0 : Nat)] = [AV.ref (0 : Nat) (0 : Nat)] ∧ J4 [AV.bool true]) ∧ (b2 = false → n.cs = n.cs ∧ [AV.ref (0 : Nat) (0 : Nat)] = [AV.ref (0 : Nat) (0 : Nat)] ∧ J4 [AV.bool !n.NdState.Clock])) ∧ (n.NdState.Broken = false → (b2 = true → n.cs = n.cs ∧ [AV.ref (0 : Nat) (0 : Nat)] = [AV.ref (0 : Nat) (0 : Nat)] ∧ J4 [AV.bool true]) ∧ (b2 = false → n.cs = n.cs ∧ [AV.ref (0 : Nat) (0 : Nat)] = [AV.ref (0 : Nat) (0 : Nat)] ∧ J4 [AV.bool n.NdState.Dark]))) ∧ ∀ (b6 : Bool), J4 [AV.bool b6] → (b6 = true → ∃ b10, S (67 : Nat) [n.NdState.Force.av, AV.ref (0 : Nat) (0 : Nat)] [[AV.ref (1 : Nat) (0 : Nat)], n.cs] (AV.bool b10) [[AV.ref (1 : Nat) (0 : Nat)], n.cs] ∧ ((!b10) = true → ∃ b14, S (67 : Nat) [n.NdState.Dim.av, AV.ref (0 : Nat) (0 : Nat)] [[AV.ref (1 : Nat) (0 : Nat)], n.cs] (AV.bool b14) [[AV.ref (1 : Nat) (0 : Nat)], n.cs] ∧ (b14 = true → Q (AV.tup []) [[AV.int IntKind.i64 n.NdState.Numbers0, AV.int IntKind.i64 n.NdState.Numbers1, AV.int IntKind.i64 n.NdState.Numbers2, AV.int IntKind.i64 n.NdState.Numbers3, AV.int IntKind.i64 n.NdState.Numbers4, AV.int IntKind.i64 n.NdState.Numbers5, AV.bool n.NdState.Clock, AV.int IntKind.i64 n.NdState.Time, AV.int IntKind.i64 n.NdState.Plan.First, AV.slc (3 : Nat) (List.map TSnNight.av n.NdState.Plan.Nights), AV.int IntKind.i64 n.NdState.Dim.From, AV.int IntKind.i64 n.NdState.Dim.Until, AV.int IntKind.i64 n.NdState.Dim.Level, AV.int IntKind.i64 n.NdState.Force.From, AV.int IntKind.i64 n.NdState.Force.Until, AV.int IntKind.i64 n.NdState.Force.Level, AV.int IntKind.i64 n.NdState.Version, AV.bool n.NdState.Broken, AV.bool n.NdState.Dark, AV.int IntKind.i64 (if n.NdState.Dim.Level > n.set'.Floor then n.NdState.Dim.Level else n.set'.Floor), AV.int IntKind.i64 n.NdState.Count, AV.int IntKind.i64 n.set'.Floor, AV.int IntKind.i64 n.set'.Core.On, AV.int IntKind.i64 n.set'.Core.Off, AV.int IntKind.i64 n.set'.Default.On, AV.int IntKind.i64 n.set'.Default.Off, AV.int IntKind.i64 n.set'.Hold, AV.int IntKind.i64 n.set'.CellOn, AV.int IntKind.i64 n.set'.CellOff]]) ∧ (b14 = false → (b6 = true → Q (AV.tup []) [[AV.int IntKind.i64 n.NdState.Numbers0, AV.int IntKind.i64 n.NdState.Numbers1, AV.int IntKind.i64 n.NdState.Numbers2, AV.int IntKind.i64 n.NdState.Numbers3, AV.int IntKind.i64 n.NdState.Numbers4, AV.int IntKind.i64 n.NdState.Numbers5, AV.bool n.NdState.Clock, AV.int IntKind.i64 n.NdState.Time, AV.int IntKind.i64 n.NdState.Plan.First, AV.slc (3 : Nat) (List.map TSnNight.av n.NdState.Plan.Nights), AV.int IntKind.i64 n.NdState.Dim.From, AV.int IntKind.i64 n.NdState.Dim.Until, AV.int IntKind.i64 n.NdState.Dim.Level, AV.int IntKind.i64 n.NdState.Force.From, AV.int IntKind.i64 n.NdState.Force.Until, AV.int IntKind.i64 n.NdState.Force.Level, AV.int IntKind.i64 n.NdState.Version, AV.bool n.NdState.Broken, AV.bool n.NdState.Dark, AV.int IntKind.i64 (1000 : Int), AV.int IntKind.i64 n.NdState.Count, AV.int IntKind.i64 n.set'.Floor, AV.int IntKind.i64 n.set'.Core.On, AV.int IntKind.i64 n.set'.Core.Off, AV.int IntKind.i64 n.set'.Default.On, AV.int IntKind.i64 n.set'.Default.Off, AV.int IntKind.i64 n.set'.Hold, AV.int IntKind.i64 n.set'.CellOn, AV.int IntKind.i64 n.set'.CellOff]]) ∧ (b6 = false → ∃ b20, S (67 : Nat) [n.NdState.Force.av, AV.ref (0 : Nat) (0 : Nat)] [[AV.ref (1 : Nat) (0 : Nat)], n.cs] (AV.bool b20) [[AV.ref (1 : Nat) (0 : Nat)], n.cs] ∧ (b20 = true → Q (AV.tup []) [[AV.int IntKind.i64 n.NdState.Numbers0, AV.int IntKind.i64 n.NdState.Numbers1, AV.int IntKind.i64 n.NdState.Numbers2, AV.int IntKind.i64 n.NdState.Numbers3, AV.int IntKind.i64 n.NdState.Numbers4, AV.int IntKind.i64 n.NdState.Numbers5, AV.bool n.NdState.Clock, AV.int IntKind.i64 n.NdState.Time, AV.int IntKind.i64 n.NdState.Plan.First, AV.slc (3 : Nat) (List.map TSnNight.av n.NdState.Plan.Nights), AV.int IntKind.i64 n.NdState.Dim.From, AV.int IntKind.i64 n.NdState.Dim.Until, AV.int IntKind.i64 n.NdState.Dim.Level, AV.int IntKind.i64 n.NdState.Force.From, AV.int IntKind.i64 n.NdState.Force.Until, AV.int IntKind.i64 n.NdState.Force.Level, AV.int IntKind.i64 n.NdState.Version, AV.bool n.NdState.Broken, AV.bool n.NdState.Dark, AV.int IntKind.i64 n.NdState.Force.Level, AV.int IntKind.i64 n.NdState.Count, AV.int IntKind.i64 n.set'.Floor, AV.int IntKind.i64 n.set'.Core.On, AV.int IntKind.i64 n.set'.Core.Off, AV.int IntKind.i64 n.set'.Default.On, AV.int IntKind.i64 n.set'.Default.Off, AV.int IntKind.i64 n.set'.Hold, AV.int IntKind.i64 n.set'.CellOn, AV.int IntKind.i64 n.set'.CellOff]]) ∧ (b20 = false → Q (AV.tup []) [[AV.int IntKind.i64 n.NdState.Numbers0, AV.int IntKind.i64 n.NdState.Numbers1, AV.int IntKind.i64 n.NdState.Numbers2, AV.int IntKind.i64 n.NdState.Numbers3, AV.int IntKind.i64 n.NdState.Numbers4, AV.int IntKind.i64 n.NdState.Numbers5, AV.bool n.NdState.Clock, AV.int IntKind.i64 n.NdState.Time, AV.int IntKind.i64 n.NdState.Plan.First, AV.slc (3 : Nat) (List.map TSnNight.av n.NdState.Plan.Nights), AV.int IntKind.i64 n.NdState.Dim.From, AV.int IntKind.i64 n.NdState.Dim.Until, AV.int IntKind.i64 n.NdState.Dim.Level, AV.int IntKind.i64 n.NdState.Force.From, AV.int IntKind.i64 n.NdState.Force.Until, AV.int IntKind.i64 n.NdState.Force.Level, AV.int IntKind.i64 n.NdState.Version, AV.bool n.NdState.Broken, AV.bool n.NdState.Dark, AV.int IntKind.i64 (0 : Int), AV.int IntKind.i64 n.NdState.Count, AV.int IntKind.i64 n.set'.Floor, AV.int IntKind.i64 n.set'.Core.On, AV.int IntKind.i64 n.set'.Core.Off, AV.int IntKind.i64 n.set'.Default.On, AV.int IntKind.i64 n.set'.Default.Off, AV.int IntKind.i64 n.set'.Hold, AV.int IntKind.i64 n.set'.CellOn, AV.int IntKind.i64 n.set'.CellOff]])))) ∧ ((!b10) = false → (b6 = true → Q (AV.tup []) [[AV.int IntKind.i64 n.NdState.Numbers0, AV.int IntKind.i64 n.NdState.Numbers1, AV.int IntKind.i64 n.NdState.Numbers2, AV.int IntKind.i64 n.NdState.Numbers3, AV.int IntKind.i64 n.NdState.Numbers4, AV.int IntKind.i64 n.NdState.Numbers5, AV.bool n.NdState.Clock, AV.int IntKind.i64 n.NdState.Time, AV.int IntKind.i64 n.NdState.Plan.First, AV.slc (3 : Nat) (List.map TSnNight.av n.NdState.Plan.Nights), AV.int IntKind.i64 n.NdState.Dim.From, AV.int IntKind.i64 n.NdState.Dim.Until, AV.int IntKind.i64 n.NdState.Dim.Level, AV.int IntKind.i64 n.NdState.Force.From, AV.int IntKind.i64 n.NdState.Force.Until, AV.int IntKind.i64 n.NdState.Force.Level, AV.int IntKind.i64 n.NdState.Version, AV.bool n.NdState.Broken, AV.bool n.NdState.Dark, AV.int IntKind.i64 (1000 : Int), AV.int IntKind.i64 n.NdState.Count, AV.int IntKind.i64 n.set'.Floor, AV.int IntKind.i64 n.set'.Core.On, AV.int IntKind.i64 n.set'.Core.Off, AV.int IntKind.i64 n.set'.Default.On, AV.int IntKind.i64 n.set'.Default.Off, AV.int IntKind.i64 n.set'.Hold, AV.int IntKind.i64 n.set'.CellOn, AV.int IntKind.i64 n.set'.CellOff]]) ∧ (b6 = false → ∃ b16, S (67 : Nat) [n.NdState.Force.av, AV.ref (0 : Nat) (0 : Nat)] [[AV.ref (1 : Nat) (0 : Nat)], n.cs] (AV.bool b16) [[AV.ref (1 : Nat) (0 : Nat)], n.cs] ∧ (b16 = true → Q (AV.tup []) [[AV.int IntKind.i64 n.NdState.Numbers0, AV.int IntKind.i64 n.NdState.Numbers1, AV.int IntKind.i64 n.NdState.Numbers2, AV.int IntKind.i64 n.NdState.Numbers3, AV.int IntKind.i64 n.NdState.Numbers4, AV.int IntKind.i64 n.NdState.Numbers5, AV.bool n.NdState.Clock, AV.int IntKind.i64 n.NdState.Time, AV.int IntKind.i64 n.NdState.Plan.First, AV.slc (3 : Nat) (List.map TSnNight.av n.NdState.Plan.Nights), AV.int IntKind.i64 n.NdState.Dim.From, AV.int IntKind.i64 n.NdState.Dim.Until, AV.int IntKind.i64 n.NdState.Dim.Level, AV.int IntKind.i64 n.NdState.Force.From, AV.int IntKind.i64 n.NdState.Force.Until, AV.int IntKind.i64 n.NdState.Force.Level, AV.int IntKind.i64 n.NdState.Version, AV.bool n.NdState.Broken, AV.bool n.NdState.Dark, AV.int IntKind.i64 n.NdState.Force.Level, AV.int IntKind.i64 n.NdState.Count, AV.int IntKind.i64 n.set'.Floor, AV.int IntKind.i64 n.set'.Core.On, AV.int IntKind.i64 n.set'.Core.Off, AV.int IntKind.i64 n.set'.Default.On, AV.int IntKind.i64 n.set'.Default.Off, AV.int IntKind.i64 n.set'.Hold, AV.int IntKind.i64 n.set'.CellOn, AV.int IntKind.i64 n.set'.CellOff]]) ∧ (b16 = false → Q (AV.tup []) [[AV.int IntKind.i64 n.NdState.Numbers0, AV.int IntKind.i64 n.NdState.Numbers1, AV.int IntKind.i64 n.NdState.Numbers2, AV.int IntKind.i64 n.NdState.Numbers3, AV.int IntKind.i64 n.NdState.Numbers4, AV.int IntKind.i64 n.NdState.Numbers5, AV.bool n.NdState.Clock, AV.int IntKind.i64 n.NdState.Time, AV.int IntKind.i64 n.NdState.Plan.First, AV.slc (3 : Nat) (List.map TSnNight.av n.NdState.Plan.Nights), AV.int IntKind.i64 n.NdState.Dim.From, AV.int IntKind.i64 n.NdState.Dim.Until, AV.int IntKind.i64 n.NdState.Dim.Level, AV.int IntKind.i64 n.NdState.Force.From, AV.int IntKind.i64 n.NdState.Force.Until, AV.int IntKind.i64 n.NdState.Force.Level, AV.int IntKind.i64 n.NdState.Version, AV.bool n.NdState.Broken, AV.bool n.NdState.Dark, AV.int IntKind.i64 (0 : Int), AV.int IntKind.i64 n.NdState.Count, AV.int IntKind.i64 n.set'.Floor, AV.int IntKind.i64 n.set'.Core.On, AV.int IntKind.i64 n.set'.Core.Off, AV.int IntKind.i64 n.set'.Default.On, AV.int IntKind.i64 n.set'.Default.Off, AV.int IntKind.i64 n.set'.Hold, AV.int IntKind.i64 n.set'.CellOn, AV.int IntKind.i64 n.set'.CellOff]])))) ∧ (b6 = false → (b6 = true → Q (AV.tup []) [[AV.int IntKind.i64 n.NdState.Numbers0, AV.int IntKind.i64 n.NdState.Numbers1, AV.int IntKind.i64 n.NdState.Numbers2, AV.int IntKind.i64 n.NdState.Numbers3, AV.int IntKind.i64 n.NdState.Numbers4, AV.int IntKind.i64 n.NdState.Numbers5, AV.bool n.NdState.Clock, AV.int IntKind.i64 n.NdState.Time, AV.int IntKind.i64 n.NdState.Plan.First, AV.slc (3 : Nat) (List.map TSnNight.av n.NdState.Plan.Nights), AV.int IntKind.i64 n.NdState.Dim.From, AV.int IntKind.i64 n.NdState.Dim.Until, AV.int IntKind.i64 n.NdState.Dim.Level, AV.int IntKind.i64 n.NdState.Force.From, AV.int IntKind.i64 n.NdState.Force.Until, AV.int IntKind.i64 n.NdState.Force.Level, AV.int IntKind.i64 n.NdState.Version, AV.bool n.NdState.Broken, AV.bool n.NdState.Dark, AV.int IntKind.i64 (1000 : Int), AV.int IntKind.i64 n.NdState.Count, AV.int IntKind.i64 n.set'.Floor, AV.int IntKind.i64 n.set'.Core.On, AV.int IntKind.i64 n.set'.Core.Off, AV.int IntKind.i64 n.set'.Default.On, AV.int IntKind.i64 n.set'.Default.Off, AV.int IntKind.i64 n.set'.Hold, AV.int IntKind.i64 n.set'.CellOn, AV.int IntKind.i64 n.set'.CellOff]]) ∧ (b6 = false → ∃ b12, S (67 : Nat) [n.NdState.Force.av, AV.ref (0 : Nat) (0 : Nat)] [[AV.ref (1 : Nat) (0 : Nat)], n.cs] (AV.bool b12) [[AV.ref (1 : Nat) (0 : Nat)], n.cs] ∧ (b12 = true → Q (AV.tup []) [[AV.int IntKind.i64 n.NdState.Numbers0, AV.int IntKind.i64 n.NdState.Numbers1, AV.int IntKind.i64 n.NdState.Numbers2, AV.int IntKind.i64 n.NdState.Numbers3, AV.int IntKind.i64 n.NdState.Numbers4, AV.int IntKind.i64 n.NdState.Numbers5, AV.bool n.NdState.Clock, AV.int IntKind.i64 n.NdState.Time, AV.int IntKind.i64 n.NdState.Plan.First, AV.slc (3 : Nat) (List.map TSnNight.av n.NdState.Plan.Nights), AV.int IntKind.i64 n.NdState.Dim.From, AV.int IntKind.i64 n.NdState.Dim.Until, AV.int IntKind.i64 n.NdState.Dim.Level, AV.int IntKind.i64 n.NdState.Force.From, AV.int IntKind.i64 n.NdState.Force.Until, AV.int IntKind.i64 n.NdState.Force.Level, AV.int IntKind.i64 n.NdState.Version, AV.bool n.NdState.Broken, AV.bool n.NdState.Dark, AV.int IntKind.i64 n.NdState.Force.Level, AV.int IntKind.i64 n.NdState.Count, AV.int IntKind.i64 n.set'.Floor, AV.int IntKind.i64 n.set'.Core.On, AV.int IntKind.i64 n.set'.Core.Off, AV.int IntKind.i64 n.set'.Default.On, AV.int IntKind.i64 n.set'.Default.Off, AV.int IntKind.i64 n.set'.Hold, AV.int IntKind.i64 n.set'.CellOn, AV.int IntKind.i64 n.set'.CellOff]]) ∧ (b12 = false → Q (AV.tup []) [[AV.int IntKind.i64 n.NdState.Numbers0, AV.int IntKind.i64 n.NdState.Numbers1, AV.int IntKind.i64 n.NdState.Numbers2, AV.int IntKind.i64 n.NdState.Numbers3, AV.int IntKind.i64 n.NdState.Numbers4, AV.int IntKind.i64 n.NdState.Numbers5, AV.bool n.NdState.Clock, AV.int IntKind.i64 n.NdState.Time, AV.int IntKind.i64 n.NdState.Plan.First, AV.slc (3 : Nat) (List.map TSnNight.av n.NdState.Plan.Nights), AV.int IntKind.i64 n.NdState.Dim.From, AV.int IntKind.i64 n.NdState.Dim.Until, AV.int IntKind.i64 n.NdState.Dim.Level, AV.int IntKind.i64 n.NdState.Force.From, AV.int IntKind.i64 n.NdState.Force.Until, AV.int IntKind.i64 n.NdState.Force.Level, AV.int IntKind.i64 n.NdState.Version, AV.bool n.NdState.Broken, AV.bool n.NdState.Dark, AV.int IntKind.i64 (0 : Int), AV.int IntKind.i64 n.NdState.Count, AV.int IntKind.i64 n.set'.Floor, AV.int IntKind.i64 n.set'.Core.On, AV.int IntKind.i64 n.set'.Core.Off, AV.int IntKind.i64 n.set'.Default.On, AV.int IntKind.i64 n.set'.Default.Off, AV.int IntKind.i64 n.set'.Hold, AV.int IntKind.i64 n.set'.CellOn, AV.int IntKind.i64 n.set'.CellOff]])))
theorem r62 (n : TNode) (S : SpecF) (Fr : FuncId → List AV → Nat → List AV → Prop) (Q : AV → List (List AV) → Prop) : awpF Try.prog ⟨S, Fr, ⟨[], [], [67, 68]⟩⟩ 1 ⟨[0, 1, 2, 3, 4, 5, 34, 56, 93, 99], [], [⟨5, [(5, .bool false)], [], []⟩, ⟨9, [(5, .bool false)], [], []⟩], []⟩ Try.f62 [.ref 0 0] [⟨86, false, n.cs⟩] Q = R62 n S Fr Q := by kernel_rfl
theorem s62 (n : TNode) (v : AV) (O : List (List AV)) (h : R62 n (SpecOf Try.prog) (FreshOf Try.prog) (fun r O' => r = v ∧ O' = O)) : SpecOf Try.prog 62 [.ref 0 0] [n.cs] v O :=
  spec_by (boxes := [⟨86, false, n.cs⟩]) mixed Try.func62 Try.call62 rfl rfl rfl (Nat.le_of_ble_eq_true rfl) (r62 n (SpecOf Try.prog) (FreshOf Try.prog) _) h
def litN (n : TNode) : TNode := { n with NdState := { n.NdState with Level := levelS n.set' n.NdState } }
theorem c62 (n : TNode) (h : SOK n.NdState) : Sp 62 [.ref 0 0] [n.cs] (.tup []) [(litN n).cs] := s62 n _ _ (by
  have h' := h
  obtain ⟨⟨h1, h2⟩, h3, h4, h5⟩ := h'
  have e0 : n.NdState.Time.tdiv 86400 = n.NdState.Time / 86400 := Int.tdiv_eq_ediv_of_nonneg h4
  have e1 : IntKind.i64.wrap (n.NdState.Time / 86400) = n.NdState.Time / 86400 := i64 (by omega)
  have e2 : IntKind.i64.wrap (n.NdState.Time / 86400 - 1) = n.NdState.Time / 86400 - 1 := i64 (by omega)
  unfold R62; rw [e0, e1, e2]
  refine ⟨fun vs => vs = [.bool (clockB n.set' n.NdState)], ⟨fun g1 => ⟨_, c68 _ n h (by omega), fun g2 => ⟨rfl, rfl, ?_⟩, fun g2 => ⟨_, c68 _ n h (by omega), rfl, rfl, ?_⟩⟩, fun g1 => ⟨rfl, rfl, ?_⟩⟩, ?_⟩
  · simp only [clockB, g1, g2, Bool.true_and, Bool.true_or]
  · simp only [clockB, g1, g2, Bool.true_and, Bool.false_or]
  · simp only [clockB, g1, Bool.false_and]
  rintro _ ⟨⟩
  refine ⟨fun vs => vs = [.bool (darkB n.set' n.NdState)], ⟨fun g1 => ⟨fun g2 => ⟨rfl, rfl, ?_⟩, fun g2 => ⟨rfl, rfl, ?_⟩⟩, fun g1 => ⟨fun g2 => ⟨rfl, rfl, ?_⟩, fun g2 => ⟨rfl, rfl, ?_⟩⟩⟩, ?_⟩
  · simp [darkB, g2]
  · simp [darkB, g1, g2]
  · simp [darkB, g2]
  · simp [darkB, g1, g2]
  rintro _ ⟨⟩
  unfold litN levelS
  generalize darkB n.set' n.NdState = b
  cases b with
  | true =>
    refine ⟨fun _ => ⟨_, c67 n.NdState.Force n, fun g1 => ⟨_, c67 n.NdState.Dim n, fun g2 => ⟨rfl, ?_⟩, fun g2 => ⟨fun _ => ⟨rfl, ?_⟩, fun h => (by cases h)⟩⟩, fun g1 => ⟨fun _ => ⟨rfl, ?_⟩, fun h => (by cases h)⟩⟩, fun h => (by cases h)⟩
    · simp only [Bool.not_eq_true'] at g1
      simp [TNode.cs, g1, g2, max_if]
    · simp only [Bool.not_eq_true'] at g1
      simp [TNode.cs, g1, g2]
    · simp only [Bool.not_eq_false'] at g1
      simp [TNode.cs, g1]
  | false =>
    refine ⟨fun h => (by cases h), fun _ => ⟨fun h => (by cases h), fun _ => ⟨_, c67 n.NdState.Force n, fun g1 => ⟨rfl, ?_⟩, fun g1 => ⟨rfl, ?_⟩⟩⟩⟩
    · simp [TNode.cs, g1]
    · simp [TNode.cs, g1])
end Go.Proofs.Ytdaanpgdjjodcaa

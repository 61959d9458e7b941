/- The laws NodeTakes, NodeChecks, NodeNights, NodeOwnCell, by contracts. -/
import Derived.Test.YtdaanpgdjjodcaaQ
namespace Go.Proofs.Ytdaanpgdjjodcaa
open Go.RowKit
theorem after_len (c : TNdSet) (s : TNdState) : (afterS c s).1.Plan.Nights.length ≤ s.Plan.Nights.length := by
  unfold afterS; split
  · exact Nat.zero_le _
  · exact Nat.le_refl _
theorem take_len (c : TNdSet) (s : TNdState) (m : TNdMessage) : (takeS c s m).1.Plan.Nights.length ≤ 1000000 := by
  unfold takeS
  split
  · exact Nat.zero_le _
  rename_i h
  split
  · exact Nat.zero_le _
  rename_i h1
  have h : stateS c s = 0 := by omega
  have h1 : refusedS c s m = 0 := by omega
  have := (take_ok (stateB_ok (state_ok h).2).1 h1).2.1
  have := after_len c (changeS (setNum s m.Kind m.Number) m)
  omega
theorem cut_len (c : TNdSet) (s : TNdState) : (cutS c s).1.Plan.Nights.length ≤ 1000000 := by
  unfold cutS
  split
  · exact Nat.zero_le _
  rename_i h
  have h : stateS c s = 0 := by omega
  have := (stateB_ok (state_ok h).2).1.2.1
  have h2 := after_len c (cutC s)
  have h3 : (cutC s).Plan.Nights.length = s.Plan.Nights.length := rfl
  omega
theorem new_len (c : TNdSet) : (newS c).1.Plan.Nights.length ≤ 1000000 := by
  unfold newS
  split <;> exact Nat.zero_le _
def R3 (c : TNdSet) (s : TNdState) (m : TNdMessage) (S : SpecF) (Fr : FuncId → List AV → Nat → List AV → Prop) (Q : AV → List (List AV) → Prop) : Prop :=
  ∃ n0 n1 n2 n3 n4 n5 b6 n7 n8 es9 n10 n11 n12 n13 n14 n15 n16 b17 b18 n19 n20 n21, S (11 : Nat) [c.av, s.av, m.av] [] (AV.tup [AV.agg [AV.int IntKind.i64 n0, AV.int IntKind.i64 n1, AV.int IntKind.i64 n2, AV.int IntKind.i64 n3, AV.int IntKind.i64 n4, AV.int IntKind.i64 n5, AV.bool b6, AV.int IntKind.i64 n7, AV.int IntKind.i64 n8, AV.slc (3 : Nat) es9, AV.int IntKind.i64 n10, AV.int IntKind.i64 n11, AV.int IntKind.i64 n12, AV.int IntKind.i64 n13, AV.int IntKind.i64 n14, AV.int IntKind.i64 n15, AV.int IntKind.i64 n16, AV.bool b17, AV.bool b18, AV.int IntKind.i64 n19, AV.int IntKind.i64 n20], AV.int IntKind.i64 n21]) [] ∧ ∃ n23 n24 n25 n26 n27 n28 b29 n30 n31 es32 n33 n34 n35 n36 n37 n38 n39 b40 b41 n42 n43 n44, S (12 : Nat) [c.av, s.av, m.av] [] (AV.tup [AV.agg [AV.int IntKind.i64 n23, AV.int IntKind.i64 n24, AV.int IntKind.i64 n25, AV.int IntKind.i64 n26, AV.int IntKind.i64 n27, AV.int IntKind.i64 n28, AV.bool b29, AV.int IntKind.i64 n30, AV.int IntKind.i64 n31, AV.slc (3 : Nat) es32, AV.int IntKind.i64 n33, AV.int IntKind.i64 n34, AV.int IntKind.i64 n35, AV.int IntKind.i64 n36, AV.int IntKind.i64 n37, AV.int IntKind.i64 n38, AV.int IntKind.i64 n39, AV.bool b40, AV.bool b41, AV.int IntKind.i64 n42, AV.int IntKind.i64 n43], AV.int IntKind.i64 n44]) [] ∧ ((n21 != n44) = true → Q (AV.bool false) []) ∧ ((n21 != n44) = false → ∃ b48, S (13 : Nat) [AV.agg [AV.int IntKind.i64 n0, AV.int IntKind.i64 n1, AV.int IntKind.i64 n2, AV.int IntKind.i64 n3, AV.int IntKind.i64 n4, AV.int IntKind.i64 n5, AV.bool b6, AV.int IntKind.i64 n7, AV.int IntKind.i64 n8, AV.slc (3 : Nat) es9, AV.int IntKind.i64 n10, AV.int IntKind.i64 n11, AV.int IntKind.i64 n12, AV.int IntKind.i64 n13, AV.int IntKind.i64 n14, AV.int IntKind.i64 n15, AV.int IntKind.i64 n16, AV.bool b17, AV.bool b18, AV.int IntKind.i64 n19, AV.int IntKind.i64 n20], AV.agg [AV.int IntKind.i64 n23, AV.int IntKind.i64 n24, AV.int IntKind.i64 n25, AV.int IntKind.i64 n26, AV.int IntKind.i64 n27, AV.int IntKind.i64 n28, AV.bool b29, AV.int IntKind.i64 n30, AV.int IntKind.i64 n31, AV.slc (3 : Nat) es32, AV.int IntKind.i64 n33, AV.int IntKind.i64 n34, AV.int IntKind.i64 n35, AV.int IntKind.i64 n36, AV.int IntKind.i64 n37, AV.int IntKind.i64 n38, AV.int IntKind.i64 n39, AV.bool b40, AV.bool b41, AV.int IntKind.i64 n42, AV.int IntKind.i64 n43]] [] (AV.bool b48) [] ∧ ((!b48) = true → Q (AV.bool false) []) ∧ ((!b48) = false → ∃ n52 n53 n54 n55 n56 n57 b58 n59 n60 es61 n62 n63 n64 n65 n66 n67 n68 b69 b70 n71 n72 n73, S (14 : Nat) [c.av, s.av] [] (AV.tup [AV.agg [AV.int IntKind.i64 n52, AV.int IntKind.i64 n53, AV.int IntKind.i64 n54, AV.int IntKind.i64 n55, AV.int IntKind.i64 n56, AV.int IntKind.i64 n57, AV.bool b58, AV.int IntKind.i64 n59, AV.int IntKind.i64 n60, AV.slc (3 : Nat) es61, AV.int IntKind.i64 n62, AV.int IntKind.i64 n63, AV.int IntKind.i64 n64, AV.int IntKind.i64 n65, AV.int IntKind.i64 n66, AV.int IntKind.i64 n67, AV.int IntKind.i64 n68, AV.bool b69, AV.bool b70, AV.int IntKind.i64 n71, AV.int IntKind.i64 n72], AV.int IntKind.i64 n73]) [] ∧ ∃ n75 n76 n77 n78 n79 n80 b81 n82 n83 es84 n85 n86 n87 n88 n89 n90 n91 b92 b93 n94 n95 n96, S (15 : Nat) [c.av, s.av] [] (AV.tup [AV.agg [AV.int IntKind.i64 n75, AV.int IntKind.i64 n76, AV.int IntKind.i64 n77, AV.int IntKind.i64 n78, AV.int IntKind.i64 n79, AV.int IntKind.i64 n80, AV.bool b81, AV.int IntKind.i64 n82, AV.int IntKind.i64 n83, AV.slc (3 : Nat) es84, AV.int IntKind.i64 n85, AV.int IntKind.i64 n86, AV.int IntKind.i64 n87, AV.int IntKind.i64 n88, AV.int IntKind.i64 n89, AV.int IntKind.i64 n90, AV.int IntKind.i64 n91, AV.bool b92, AV.bool b93, AV.int IntKind.i64 n94, AV.int IntKind.i64 n95], AV.int IntKind.i64 n96]) [] ∧ ((n73 == n96) = true → ∃ b100, S (13 : Nat) [AV.agg [AV.int IntKind.i64 n52, AV.int IntKind.i64 n53, AV.int IntKind.i64 n54, AV.int IntKind.i64 n55, AV.int IntKind.i64 n56, AV.int IntKind.i64 n57, AV.bool b58, AV.int IntKind.i64 n59, AV.int IntKind.i64 n60, AV.slc (3 : Nat) es61, AV.int IntKind.i64 n62, AV.int IntKind.i64 n63, AV.int IntKind.i64 n64, AV.int IntKind.i64 n65, AV.int IntKind.i64 n66, AV.int IntKind.i64 n67, AV.int IntKind.i64 n68, AV.bool b69, AV.bool b70, AV.int IntKind.i64 n71, AV.int IntKind.i64 n72], AV.agg [AV.int IntKind.i64 n75, AV.int IntKind.i64 n76, AV.int IntKind.i64 n77, AV.int IntKind.i64 n78, AV.int IntKind.i64 n79, AV.int IntKind.i64 n80, AV.bool b81, AV.int IntKind.i64 n82, AV.int IntKind.i64 n83, AV.slc (3 : Nat) es84, AV.int IntKind.i64 n85, AV.int IntKind.i64 n86, AV.int IntKind.i64 n87, AV.int IntKind.i64 n88, AV.int IntKind.i64 n89, AV.int IntKind.i64 n90, AV.int IntKind.i64 n91, AV.bool b92, AV.bool b93, AV.int IntKind.i64 n94, AV.int IntKind.i64 n95]] [] (AV.bool b100) [] ∧ (b100 = true → ∃ b104, S (16 : Nat) [] [] (AV.bool b104) [] ∧ Q (AV.bool b104) []) ∧ (b100 = false → Q (AV.bool false) [])) ∧ ((n73 == n96) = false → Q (AV.bool false) [])))
theorem r3 (c : TNdSet) (s : TNdState) (m : TNdMessage) (S : SpecF) (Fr : FuncId → List AV → Nat → List AV → Prop) (Q : AV → List (List AV) → Prop) : awpF Try.prog ⟨S, Fr, ⟨[], [], []⟩⟩ 0 ⟨[0, 1, 2, 3, 4, 5, 6, 7, 8, 9, 10, 33], [], [], []⟩ Try.f3 [c.av, s.av, m.av] [] Q = R3 c s m S Fr Q := by kernel_rfl
theorem s3 (c : TNdSet) (s : TNdState) (m : TNdMessage) (v : AV) (O : List (List AV)) (h : R3 c s m (SpecOf Try.prog) (FreshOf Try.prog) (fun r O' => r = v ∧ O' = O)) : SpecOf Try.prog 3 [c.av, s.av, m.av] [] v O :=
  spec_by (boxes := []) mixed Try.func3 Try.call3 rfl rfl rfl (Nat.le_of_ble_eq_true rfl) (r3 c s m (SpecOf Try.prog) (FreshOf Try.prog) _) h
theorem c3 (c : TNdSet) (s : TNdState) (m : TNdMessage) : Sp 3 [c.av, s.av, m.av] [] (.bool true) [] := s3 c s m _ _
  ⟨_, _, _, _, _, _, _, _, _, _, _, _, _, _, _, _, _, _, _, _, _, _, c11 c s m, _, _, _, _, _, _, _, _, _, _, _, _, _, _, _, _, _, _, _, _, _, _, c12 c s m, fun h => by simp at h, fun _ => ⟨_, c13 (takeS c s m).1 (take_len c s m), fun h => (by cases h), fun _ => ⟨_, _, _, _, _, _, _, _, _, _, _, _, _, _, _, _, _, _, _, _, _, _, c14 c s, _, _, _, _, _, _, _, _, _, _, _, _, _, _, _, _, _, _, _, _, _, _, c15 c s, fun _ => ⟨_, c13 (cutS c s).1 (cut_len c s), fun _ => ⟨_, c16, rfl, rfl⟩, fun h => (by cases h)⟩, fun h => by simp at h⟩⟩⟩
def R7 (c : TNdSet) (s : TNdState) (day : Int) (S : SpecF) (Fr : FuncId → List AV → Nat → List AV → Prop) (Q : AV → List (List AV) → Prop) : Prop :=
  ∃ n0 n1 n2 n3 n4 n5 b6 n7 n8 es9 n10 n11 n12 n13 n14 n15 n16 b17 b18 n19 n20 n21, S (17 : Nat) [c.av] [] (AV.tup [AV.agg [AV.int IntKind.i64 n0, AV.int IntKind.i64 n1, AV.int IntKind.i64 n2, AV.int IntKind.i64 n3, AV.int IntKind.i64 n4, AV.int IntKind.i64 n5, AV.bool b6, AV.int IntKind.i64 n7, AV.int IntKind.i64 n8, AV.slc (3 : Nat) es9, AV.int IntKind.i64 n10, AV.int IntKind.i64 n11, AV.int IntKind.i64 n12, AV.int IntKind.i64 n13, AV.int IntKind.i64 n14, AV.int IntKind.i64 n15, AV.int IntKind.i64 n16, AV.bool b17, AV.bool b18, AV.int IntKind.i64 n19, AV.int IntKind.i64 n20], AV.int IntKind.i64 n21]) [] ∧ ∃ n23 n24 n25 n26 n27 n28 b29 n30 n31 es32 n33 n34 n35 n36 n37 n38 n39 b40 b41 n42 n43 n44, S (25 : Nat) [c.av] [] (AV.tup [AV.agg [AV.int IntKind.i64 n23, AV.int IntKind.i64 n24, AV.int IntKind.i64 n25, AV.int IntKind.i64 n26, AV.int IntKind.i64 n27, AV.int IntKind.i64 n28, AV.bool b29, AV.int IntKind.i64 n30, AV.int IntKind.i64 n31, AV.slc (3 : Nat) es32, AV.int IntKind.i64 n33, AV.int IntKind.i64 n34, AV.int IntKind.i64 n35, AV.int IntKind.i64 n36, AV.int IntKind.i64 n37, AV.int IntKind.i64 n38, AV.int IntKind.i64 n39, AV.bool b40, AV.bool b41, AV.int IntKind.i64 n42, AV.int IntKind.i64 n43], AV.int IntKind.i64 n44]) [] ∧ ((n21 != n44) = true → Q (AV.bool false) []) ∧ ((n21 != n44) = false → ∃ b48, S (13 : Nat) [AV.agg [AV.int IntKind.i64 n0, AV.int IntKind.i64 n1, AV.int IntKind.i64 n2, AV.int IntKind.i64 n3, AV.int IntKind.i64 n4, AV.int IntKind.i64 n5, AV.bool b6, AV.int IntKind.i64 n7, AV.int IntKind.i64 n8, AV.slc (3 : Nat) es9, AV.int IntKind.i64 n10, AV.int IntKind.i64 n11, AV.int IntKind.i64 n12, AV.int IntKind.i64 n13, AV.int IntKind.i64 n14, AV.int IntKind.i64 n15, AV.int IntKind.i64 n16, AV.bool b17, AV.bool b18, AV.int IntKind.i64 n19, AV.int IntKind.i64 n20], AV.agg [AV.int IntKind.i64 n23, AV.int IntKind.i64 n24, AV.int IntKind.i64 n25, AV.int IntKind.i64 n26, AV.int IntKind.i64 n27, AV.int IntKind.i64 n28, AV.bool b29, AV.int IntKind.i64 n30, AV.int IntKind.i64 n31, AV.slc (3 : Nat) es32, AV.int IntKind.i64 n33, AV.int IntKind.i64 n34, AV.int IntKind.i64 n35, AV.int IntKind.i64 n36, AV.int IntKind.i64 n37, AV.int IntKind.i64 n38, AV.int IntKind.i64 n39, AV.bool b40, AV.bool b41, AV.int IntKind.i64 n42, AV.int IntKind.i64 n43]] [] (AV.bool b48) [] ∧ ((!b48) = true → Q (AV.bool false) []) ∧ ((!b48) = false → ∃ n52, S (26 : Nat) [c.av] [] (AV.int IntKind.i64 n52) [] ∧ ∃ n54, S (27 : Nat) [c.av] [] (AV.int IntKind.i64 n54) [] ∧ ((n52 != n54) = true → Q (AV.bool false) []) ∧ ((n52 != n54) = false → ∃ n58, S (21 : Nat) [c.av, s.av] [] (AV.int IntKind.i64 n58) [] ∧ ∃ n60, S (28 : Nat) [c.av, s.av] [] (AV.int IntKind.i64 n60) [] ∧ ((n58 != n60) = true → Q (AV.bool false) []) ∧ ((n58 != n60) = false → ∃ n64 n65 n66, S (29 : Nat) [c.av, s.av, AV.int IntKind.i64 day] [] (AV.tup [AV.agg [AV.int IntKind.i64 n64, AV.int IntKind.i64 n65], AV.int IntKind.i64 n66]) [] ∧ ∃ n68 n69 n70, S (30 : Nat) [c.av, s.av, AV.int IntKind.i64 day] [] (AV.tup [AV.agg [AV.int IntKind.i64 n68, AV.int IntKind.i64 n69], AV.int IntKind.i64 n70]) [] ∧ ((n64 == n68 && (n65 == n69 && true)) = true → ((n66 == n70) = true → ∃ b76, S (16 : Nat) [] [] (AV.bool b76) [] ∧ Q (AV.bool b76) []) ∧ ((n66 == n70) = false → Q (AV.bool false) [])) ∧ ((n64 == n68 && (n65 == n69 && true)) = false → Q (AV.bool false) [])))))
theorem r7 (c : TNdSet) (s : TNdState) (day : Int) (S : SpecF) (Fr : FuncId → List AV → Nat → List AV → Prop) (Q : AV → List (List AV) → Prop) : awpF Try.prog ⟨S, Fr, ⟨[], [], []⟩⟩ 0 ⟨[0, 1, 2, 3, 4, 6, 7, 8, 9, 10, 11, 12, 47], [], [], []⟩ Try.f7 [c.av, s.av, .int .i64 day] [] Q = R7 c s day S Fr Q := by kernel_rfl
theorem s7 (c : TNdSet) (s : TNdState) (day : Int) (v : AV) (O : List (List AV)) (h : R7 c s day (SpecOf Try.prog) (FreshOf Try.prog) (fun r O' => r = v ∧ O' = O)) : SpecOf Try.prog 7 [c.av, s.av, .int .i64 day] [] v O :=
  spec_by (boxes := []) mixed Try.func7 Try.call7 rfl rfl rfl (Nat.le_of_ble_eq_true rfl) (r7 c s day (SpecOf Try.prog) (FreshOf Try.prog) _) h
theorem c7 (c : TNdSet) (s : TNdState) (day : Int) : Sp 7 [c.av, s.av, .int .i64 day] [] (.bool true) [] := s7 c s day _ _
  ⟨_, _, _, _, _, _, _, _, _, _, _, _, _, _, _, _, _, _, _, _, _, _, c17 c, _, _, _, _, _, _, _, _, _, _, _, _, _, _, _, _, _, _, _, _, _, _, c25 c, fun h => by simp at h, fun _ => ⟨_, c13 (newS c).1 (new_len c), fun h => (by cases h), fun _ => ⟨_, c26 c, _, c27 c, fun h => by simp at h, fun _ => ⟨_, c21 c s, _, c28 c s, fun h => by simp at h, fun _ => ⟨_, _, _, c29 c s day, _, _, _, c30 c s day, fun _ => ⟨fun _ => ⟨_, c16, rfl, rfl⟩, fun h => by simp at h⟩, fun h => by simp at h⟩⟩⟩⟩⟩
theorem check_ok {c : TNdSet} (h : checkS c = 0) : (1 ≤ c.Floor ∧ c.Floor ≤ 1000) ∧ (0 ≤ c.CellOn ∧ c.CellOn ≤ 1000000000) ∧ (0 ≤ c.CellOff ∧ c.CellOff ≤ 1000000000) ∧ goodB c.Core = true ∧ goodB c.Default = true ∧ covB c.Default c.Core = true ∧ c.CellOn < c.CellOff := by
  unfold checkS at h
  split at h
  · cases h
  rename_i h1
  split at h
  · cases h
  rename_i h2
  simp only [Bool.not_eq_true, Bool.not_eq_false', Bool.and_eq_true, decide_eq_true_eq] at h1 h2
  exact ⟨inB_iff.1 h1.1.1.1, inB_iff.1 h1.1.2, inB_iff.1 h1.2, h2.1.1.1, h2.1.1.2, h2.1.2, h2.2⟩
theorem nights_all {c : TNdSet} : ∀ {l : List TSnNight}, nightsS c l = 0 → ∀ x ∈ l, goodB x = true ∧ covB x c.Core = true := by
  intro l
  induction l with
  | nil => intro _ x hx; simp at hx
  | cons y r ih =>
    intro h x hx
    unfold nightsS at h
    split at h
    · cases h
    rename_i h1
    split at h
    · cases h
    rename_i h2
    rcases List.mem_cons.1 hx with rfl | hx
    · exact ⟨by simpa using h1, by simpa using h2⟩
    · exact ih h x hx
theorem kept_ok {c : TNdSet} {s : TNdState} (h : stateS c s = 0) (day : Int) : goodB (keptN c s day) = true ∧ covB (keptN c s day) c.Core = true := by
  obtain ⟨h1, h2⟩ := state_ok h
  have hp := (plan_ok (stateB_plan h2)).2.2
  obtain ⟨_, _, _, _, h3, h4, _⟩ := check_ok h1
  unfold keptN
  split
  · rename_i hb
    have hb := inB_iff.1 hb
    have hk : (day - s.Plan.First).toNat < s.Plan.Nights.length := by omega
    have e : s.Plan.Nights.getD (day - s.Plan.First).toNat .zero = s.Plan.Nights[(day - s.Plan.First).toNat] := by simp [List.getD, hk]
    rw [e]
    exact nights_all hp _ (List.getElem_mem hk)
  · exact ⟨h3, h4⟩
def badM (c : TNdSet) (day : Int) : TNdMessage := ⟨2, 1000000000, 0, ⟨day, [c.Core, ⟨c.Core.On + 1, c.Core.Off⟩]⟩, .zero, 0⟩
theorem bad_refused (c : TNdSet) (s : TNdState) (day : Int) : (takeS c s (badM c day)).2 ≠ 0 := by
  intro h
  unfold takeS at h
  split at h
  · contradiction
  split at h
  · contradiction
  rename_i h1 h2
  have h2 : refusedS c s (badM c day) = 0 := by omega
  unfold refusedS at h2
  split at h2
  · cases h2
  split at h2
  · cases h2
  split at h2
  · cases h2
  have hk : kindS c (badM c day) = planS c (badM c day).Plan := rfl
  rw [hk] at h2
  have hn := nights_all (plan_ok h2).2.2 ⟨c.Core.On + 1, c.Core.Off⟩ (by simp [badM])
  have := hn.2
  simp only [covB, Bool.and_eq_true, decide_eq_true_eq] at this
  omega
def R8 (c : TNdSet) (s : TNdState) (day : Int) (S : SpecF) (Fr : FuncId → List AV → Nat → List AV → Prop) (Q : AV → List (List AV) → Prop) : Prop :=
  ∃ n0 n1 n2, S (29 : Nat) [c.av, s.av, AV.int IntKind.i64 day] [] (AV.tup [AV.agg [AV.int IntKind.i64 n0, AV.int IntKind.i64 n1], AV.int IntKind.i64 n2]) [] ∧ ((n2 != (0 : Int)) = true → ∃ b6, S (16 : Nat) [] [] (AV.bool b6) [] ∧ Q (AV.bool b6) []) ∧ ((n2 != (0 : Int)) = false → (decide (n0 > c.Core.On) = true → Q (AV.bool false) []) ∧ (decide (n0 > c.Core.On) = false → (decide (n1 < c.Core.Off) = true → Q (AV.bool false) []) ∧ (decide (n1 < c.Core.Off) = false → (decide (IntKind.i64.wrap (n1 - n0) > (86400 : Int)) = true → Q (AV.bool false) []) ∧ (decide (IntKind.i64.wrap (n1 - n0) > (86400 : Int)) = false → ∃ n12 n13 n14 n15 n16 n17 b18 n19 n20 es21 n22 n23 n24 n25 n26 n27 n28 b29 b30 n31 n32 n33, S (11 : Nat) [c.av, s.av, AV.agg [AV.int IntKind.i64 (2 : Int), AV.int IntKind.i64 (1000000000 : Int), AV.int IntKind.i64 (0 : Int), AV.int IntKind.i64 day, AV.slc (3 : Nat) [c.Core.av, AV.agg [AV.int IntKind.i64 (IntKind.i64.wrap (c.Core.On + (1 : Int))), AV.int IntKind.i64 c.Core.Off]], AV.int IntKind.i64 (0 : Int), AV.int IntKind.i64 (0 : Int), AV.int IntKind.i64 (0 : Int), AV.int IntKind.i64 (0 : Int)]] [] (AV.tup [AV.agg [AV.int IntKind.i64 n12, AV.int IntKind.i64 n13, AV.int IntKind.i64 n14, AV.int IntKind.i64 n15, AV.int IntKind.i64 n16, AV.int IntKind.i64 n17, AV.bool b18, AV.int IntKind.i64 n19, AV.int IntKind.i64 n20, AV.slc (3 : Nat) es21, AV.int IntKind.i64 n22, AV.int IntKind.i64 n23, AV.int IntKind.i64 n24, AV.int IntKind.i64 n25, AV.int IntKind.i64 n26, AV.int IntKind.i64 n27, AV.int IntKind.i64 n28, AV.bool b29, AV.bool b30, AV.int IntKind.i64 n31, AV.int IntKind.i64 n32], AV.int IntKind.i64 n33]) [] ∧ ((n33 != (0 : Int)) = true → ∃ b37, S (16 : Nat) [] [] (AV.bool b37) [] ∧ Q (AV.bool b37) []) ∧ ((n33 != (0 : Int)) = false → Q (AV.bool false) [])))))
theorem r8 (c : TNdSet) (s : TNdState) (day : Int) (S : SpecF) (Fr : FuncId → List AV → Nat → List AV → Prop) (Q : AV → List (List AV) → Prop) : awpF Try.prog ⟨S, Fr, ⟨[], [], []⟩⟩ 0 ⟨[0, 1, 2, 3, 4, 6, 7, 8, 9, 18, 41], [], [], []⟩ Try.f8 [c.av, s.av, .int .i64 day] [] Q = R8 c s day S Fr Q := by kernel_rfl
theorem s8 (c : TNdSet) (s : TNdState) (day : Int) (v : AV) (O : List (List AV)) (h : R8 c s day (SpecOf Try.prog) (FreshOf Try.prog) (fun r O' => r = v ∧ O' = O)) : SpecOf Try.prog 8 [c.av, s.av, .int .i64 day] [] v O :=
  spec_by (boxes := []) mixed Try.func8 Try.call8 rfl rfl rfl (Nat.le_of_ble_eq_true rfl) (r8 c s day (SpecOf Try.prog) (FreshOf Try.prog) _) h
theorem c8 (c : TNdSet) (s : TNdState) (day : Int) : Sp 8 [c.av, s.av, .int .i64 day] [] (.bool true) [] := s8 c s day _ _ (by
  refine ⟨_, _, _, c29 c s day, fun _ => ⟨_, c16, rfl, rfl⟩, fun h => ?_⟩
  have h : (nightS c s day).2 = 0 := by simpa using h
  have hs : stateS c s = 0 ∧ (nightS c s day).1 = keptN c s day := by
    unfold nightS at h ⊢
    split at h
    · contradiction
    · rename_i h1
      split at h
      · cases h
      · rename_i h2
        rw [if_neg h1, if_neg h2]
        exact ⟨by omega, rfl⟩
  obtain ⟨hs, he⟩ := hs
  obtain ⟨g1, g2⟩ := kept_ok hs day
  obtain ⟨_, _, _, g3, _⟩ := check_ok (state_ok hs).1
  rw [he]
  simp only [goodB, covB, Bool.and_eq_true, decide_eq_true_eq] at g1 g2 g3
  have g4 := inB_iff.1 g1.1
  have g5 := inB_iff.1 g3.1
  have e1 : IntKind.i64.wrap ((keptN c s day).Off - (keptN c s day).On) = (keptN c s day).Off - (keptN c s day).On := i64 (by omega)
  have e2 : IntKind.i64.wrap (c.Core.On + 1) = c.Core.On + 1 := i64 (by omega)
  rw [e1, e2]
  refine ⟨fun h => absurd (of_decide_eq_true h) (by omega), fun _ => ⟨fun h => absurd (of_decide_eq_true h) (by omega), fun _ => ⟨fun h => absurd (of_decide_eq_true h) (by omega), fun _ => ⟨_, _, _, _, _, _, _, _, _, _, _, _, _, _, _, _, _, _, _, _, _, _, c11 c s (badM c day), fun _ => ⟨_, c16, rfl, rfl⟩, fun h => absurd (by simpa using h) (bad_refused c s day)⟩⟩⟩⟩)
theorem level_dark {c : TNdSet} {s : TNdState} (hf : c.Floor ≤ 1000) (h : darkB c s = true) : c.Floor ≤ levelS c s := by
  unfold levelS
  rw [h]
  simp only [Bool.true_and]
  split
  · exact hf
  · split
    · omega
    · exact hf
/-- What a tick of which the light is in its range gives. -/
def tickOK (s : TNdState) (sec : Int) : Bool := inB sec 0 86400 && !(s.Clock && decide (4000000000 - sec < s.Time))
def tickR (c : TNdSet) (s : TNdState) (sec li : Int) : TNdState := { tickC c s sec li with Count := s.Count + 1, Level := levelS c (tickC c s sec li) }
theorem tick_b {s : TNdState} {sec li : Int} (hl : -1 ≤ li ∧ li ≤ 1000000000) : tickB s sec li = tickOK s sec := by
  rw [tickB, show inB li (-1) 1000000000 = true from inB_iff.2 hl, Bool.and_true]; rfl
theorem tick_bad {c : TNdSet} {s : TNdState} {sec li : Int} (h : stateS c s = 0) (hl : -1 ≤ li ∧ li ≤ 1000000000) (hb : tickOK s sec = false) : tickS c s sec li = (.zero, 7) := by
  rw [tickS, if_neg (by simp [h]), tick_b hl, hb]; rfl
theorem tick_full {c : TNdSet} {s : TNdState} {sec li : Int} (h : stateS c s = 0) (hl : -1 ≤ li ∧ li ≤ 1000000000) (hb : tickOK s sec = true) (hc : s.Count = 1000000000) : tickS c s sec li = (.zero, 3) := by
  rw [tickS, if_neg (by simp [h]), tick_b hl, hb, if_neg (by simp), afterS, if_pos (show (tickC c s sec li).Count = 1000000000 from hc)]
theorem tick_good {c : TNdSet} {s : TNdState} {sec li : Int} (h : stateS c s = 0) (hl : -1 ≤ li ∧ li ≤ 1000000000) (hb : tickOK s sec = true) (hc : s.Count ≠ 1000000000) : tickS c s sec li = (tickR c s sec li, 0) := by
  rw [tickS, if_neg (by simp [h]), tick_b hl, hb, if_neg (by simp), afterS, if_neg (show ¬ (tickC c s sec li).Count = 1000000000 from hc)]; rfl
def R5 (c : TNdSet) (s : TNdState) (seconds : Int) (S : SpecF) (Fr : FuncId → List AV → Nat → List AV → Prop) (Q : AV → List (List AV) → Prop) : Prop :=
  ∃ n0 n1 n2 n3 n4 n5 b6 n7 n8 es9 n10 n11 n12 n13 n14 n15 n16 b17 b18 n19 n20 n21, S (18 : Nat) [c.av, s.av, AV.int IntKind.i64 seconds, AV.int IntKind.i64 c.CellOn] [] (AV.tup [AV.agg [AV.int IntKind.i64 n0, AV.int IntKind.i64 n1, AV.int IntKind.i64 n2, AV.int IntKind.i64 n3, AV.int IntKind.i64 n4, AV.int IntKind.i64 n5, AV.bool b6, AV.int IntKind.i64 n7, AV.int IntKind.i64 n8, AV.slc (3 : Nat) es9, AV.int IntKind.i64 n10, AV.int IntKind.i64 n11, AV.int IntKind.i64 n12, AV.int IntKind.i64 n13, AV.int IntKind.i64 n14, AV.int IntKind.i64 n15, AV.int IntKind.i64 n16, AV.bool b17, AV.bool b18, AV.int IntKind.i64 n19, AV.int IntKind.i64 n20], AV.int IntKind.i64 n21]) [] ∧ ∃ n23 n24 n25 n26 n27 n28 b29 n30 n31 es32 n33 n34 n35 n36 n37 n38 n39 b40 b41 n42 n43 n44, S (18 : Nat) [c.av, s.av, AV.int IntKind.i64 seconds, AV.int IntKind.i64 (-1 : Int)] [] (AV.tup [AV.agg [AV.int IntKind.i64 n23, AV.int IntKind.i64 n24, AV.int IntKind.i64 n25, AV.int IntKind.i64 n26, AV.int IntKind.i64 n27, AV.int IntKind.i64 n28, AV.bool b29, AV.int IntKind.i64 n30, AV.int IntKind.i64 n31, AV.slc (3 : Nat) es32, AV.int IntKind.i64 n33, AV.int IntKind.i64 n34, AV.int IntKind.i64 n35, AV.int IntKind.i64 n36, AV.int IntKind.i64 n37, AV.int IntKind.i64 n38, AV.int IntKind.i64 n39, AV.bool b40, AV.bool b41, AV.int IntKind.i64 n42, AV.int IntKind.i64 n43], AV.int IntKind.i64 n44]) [] ∧ ∃ n46 n47 n48 n49 n50 n51 b52 n53 n54 es55 n56 n57 n58 n59 n60 n61 n62 b63 b64 n65 n66 n67, S (18 : Nat) [c.av, s.av, AV.int IntKind.i64 seconds, AV.int IntKind.i64 c.CellOff] [] (AV.tup [AV.agg [AV.int IntKind.i64 n46, AV.int IntKind.i64 n47, AV.int IntKind.i64 n48, AV.int IntKind.i64 n49, AV.int IntKind.i64 n50, AV.int IntKind.i64 n51, AV.bool b52, AV.int IntKind.i64 n53, AV.int IntKind.i64 n54, AV.slc (3 : Nat) es55, AV.int IntKind.i64 n56, AV.int IntKind.i64 n57, AV.int IntKind.i64 n58, AV.int IntKind.i64 n59, AV.int IntKind.i64 n60, AV.int IntKind.i64 n61, AV.int IntKind.i64 n62, AV.bool b63, AV.bool b64, AV.int IntKind.i64 n65, AV.int IntKind.i64 n66], AV.int IntKind.i64 n67]) [] ∧ ((n21 != (0 : Int)) = true → ((n21 == n44) = true → ((n21 == n67) = true → ∃ b75, S (16 : Nat) [] [] (AV.bool b75) [] ∧ Q (AV.bool b75) []) ∧ ((n21 == n67) = false → Q (AV.bool false) [])) ∧ ((n21 == n44) = false → Q (AV.bool false) [])) ∧ ((n21 != (0 : Int)) = false → ((n44 != (0 : Int)) = true → Q (AV.bool false) []) ∧ ((n44 != (0 : Int)) = false → ((n67 != (0 : Int)) = true → Q (AV.bool false) []) ∧ ((n67 != (0 : Int)) = false → (decide (n19 < c.Floor) = true → Q (AV.bool false) []) ∧ (decide (n19 < c.Floor) = false → ((!b29) = true → (decide (n42 < c.Floor) = true → Q (AV.bool false) []) ∧ (decide (n42 < c.Floor) = false → (b64 = true → Q (AV.bool false) []) ∧ (b64 = false → (b63 = true → Q (AV.bool false) []) ∧ (b63 = false → ((!b40) = true → Q (AV.bool false) []) ∧ ((!b40) = false → ((!b52) = true → ((n65 == (0 : Int)) = true → ∃ b91, S (16 : Nat) [] [] (AV.bool b91) [] ∧ Q (AV.bool b91) []) ∧ ((n65 == (0 : Int)) = false → Q (AV.bool false) [])) ∧ ((!b52) = false → ((n65 == (0 : Int)) = true → ∃ b91, S (16 : Nat) [] [] (AV.bool b91) [] ∧ Q (AV.bool b91) []) ∧ ((n65 == (0 : Int)) = false → (decide (n19 ≥ c.Floor) = true → ∃ b93, S (16 : Nat) [] [] (AV.bool b93) [] ∧ Q (AV.bool b93) []) ∧ (decide (n19 ≥ c.Floor) = false → Q (AV.bool false) [])))))))) ∧ ((!b29) = false → (b64 = true → Q (AV.bool false) []) ∧ (b64 = false → (b63 = true → Q (AV.bool false) []) ∧ (b63 = false → ((!b40) = true → Q (AV.bool false) []) ∧ ((!b40) = false → ((!b52) = true → ((n65 == (0 : Int)) = true → ∃ b89, S (16 : Nat) [] [] (AV.bool b89) [] ∧ Q (AV.bool b89) []) ∧ ((n65 == (0 : Int)) = false → Q (AV.bool false) [])) ∧ ((!b52) = false → ((n65 == (0 : Int)) = true → ∃ b89, S (16 : Nat) [] [] (AV.bool b89) [] ∧ Q (AV.bool b89) []) ∧ ((n65 == (0 : Int)) = false → (decide (n19 ≥ c.Floor) = true → ∃ b91, S (16 : Nat) [] [] (AV.bool b91) [] ∧ Q (AV.bool b91) []) ∧ (decide (n19 ≥ c.Floor) = false → Q (AV.bool false) [])))))))))))
theorem r5 (c : TNdSet) (s : TNdState) (seconds : Int) (S : SpecF) (Fr : FuncId → List AV → Nat → List AV → Prop) (Q : AV → List (List AV) → Prop) : awpF Try.prog ⟨S, Fr, ⟨[], [], []⟩⟩ 0 ⟨[0, 1, 2, 3, 4, 6, 7, 8, 9, 10, 11, 12, 39, 88, 91], [], [], []⟩ Try.f5 [c.av, s.av, .int .i64 seconds] [] Q = R5 c s seconds S Fr Q := by kernel_rfl
theorem s5 (c : TNdSet) (s : TNdState) (seconds : Int) (v : AV) (O : List (List AV)) (h : R5 c s seconds (SpecOf Try.prog) (FreshOf Try.prog) (fun r O' => r = v ∧ O' = O)) : SpecOf Try.prog 5 [c.av, s.av, .int .i64 seconds] [] v O :=
  spec_by (boxes := []) mixed Try.func5 Try.call5 rfl rfl rfl (Nat.le_of_ble_eq_true rfl) (r5 c s seconds (SpecOf Try.prog) (FreshOf Try.prog) _) h
theorem c5 (c : TNdSet) (s : TNdState) (seconds : Int) : Sp 5 [c.av, s.av, .int .i64 seconds] [] (.bool true) [] := s5 c s seconds _ _ (by
  refine ⟨_, _, _, _, _, _, _, _, _, _, _, _, _, _, _, _, _, _, _, _, _, _, c18 c s seconds c.CellOn, _, _, _, _, _, _, _, _, _, _, _, _, _, _, _, _, _, _, _, _, _, _, c18 c s seconds (-1), _, _, _, _, _, _, _, _, _, _, _, _, _, _, _, _, _, _, _, _, _, _, c18 c s seconds c.CellOff, ?_⟩
  by_cases h : stateS c s = 0
  case neg =>
    have e : ∀ li, tickS c s seconds li = (.zero, stateS c s) := fun li => by rw [tickS, if_pos h]
    rw [e, e, e]
    exact ⟨fun _ => ⟨fun _ => ⟨fun _ => ⟨_, c16, rfl, rfl⟩, fun g => by simp at g⟩, fun g => by simp at g⟩, fun g => absurd (by simpa using g) h⟩
  obtain ⟨hf, h1, h2, _, _, _, h3⟩ := check_ok (state_ok h).1
  by_cases hb : tickOK s seconds = true
  case neg =>
    rw [Bool.not_eq_true] at hb
    rw [tick_bad h (li := c.CellOn) (by omega) hb, tick_bad h (li := -1) (by omega) hb, tick_bad h (li := c.CellOff) (by omega) hb]
    exact ⟨fun _ => ⟨fun _ => ⟨fun _ => ⟨_, c16, rfl, rfl⟩, fun g => by simp at g⟩, fun g => by simp at g⟩, fun g => by simp at g⟩
  by_cases hc : s.Count = 1000000000
  · rw [tick_full h (li := c.CellOn) (by omega) hb hc, tick_full h (li := -1) (by omega) hb hc, tick_full h (li := c.CellOff) (by omega) hb hc]
    exact ⟨fun _ => ⟨fun _ => ⟨fun _ => ⟨_, c16, rfl, rfl⟩, fun g => by simp at g⟩, fun g => by simp at g⟩, fun g => by simp at g⟩
  rw [tick_good h (li := c.CellOn) (by omega) hb hc, tick_good h (li := -1) (by omega) hb hc, tick_good h (li := c.CellOff) (by omega) hb hc]
  have ka : c.Floor ≤ levelS c (tickC c s seconds c.CellOn) := level_dark hf.2 (by
    have a1 : decide (c.CellOn < 0) = false := decide_eq_false (by omega)
    have a2 : ¬ c.CellOn < 0 := by omega
    simp [darkB, tickC, a2])
  have kb : s.Clock = false → c.Floor ≤ levelS c (tickC c s seconds (-1)) := fun hk => level_dark hf.2 (by simp [darkB, tickC, hk])
  have d1 : (tickC c s seconds c.CellOff).Dark = false := by
    have a1 : ¬ c.CellOff < 0 := by omega
    have a2 : ¬ c.CellOff ≤ c.CellOn := by omega
    simp [tickC, a1, a2]
  have d2 : (tickC c s seconds c.CellOff).Broken = false := by
    have a1 : ¬ c.CellOff < 0 := by omega
    simp [tickC, a1]
  have d3 : (tickC c s seconds (-1)).Broken = true := rfl
  have kd : s.Clock = false → levelS c (tickC c s seconds c.CellOff) = 0 := fun hk => by
    have b1 : (tickC c s seconds c.CellOff).Clock = false := hk
    simp [levelS, darkB, clockB, activeB, b1, d1, d2]
  have last : ∀ n : Int, ((n == (0 : Int)) = true → ∃ b, Sp 16 [] [] (AV.bool b) [] ∧ AV.bool b = AV.bool true ∧ ([] : List (List AV)) = []) := fun n _ => ⟨_, c16, rfl, rfl⟩
  refine ⟨fun g => by simp at g, fun _ => ⟨fun g => by simp at g, fun _ => ⟨fun g => by simp at g, fun _ => ⟨fun g => absurd (of_decide_eq_true g) (by show ¬ levelS c (tickC c s seconds c.CellOn) < c.Floor; omega), fun _ => ⟨fun g => ⟨fun g2 => ?_, fun _ => ?_⟩, fun g => ?_⟩⟩⟩⟩⟩
  · have g : (tickR c s seconds (-1)).Clock = false := by simpa using g
    have g : s.Clock = false := g
    exact absurd (of_decide_eq_true g2) (by show ¬ levelS c (tickC c s seconds (-1)) < c.Floor; have := kb g; omega)
  · have g : (tickR c s seconds (-1)).Clock = false := by simpa using g
    have g : s.Clock = false := g
    have e0 := kd g
    refine ⟨fun g2 => absurd (d1.symm.trans g2) (by simp), fun _ => ⟨fun g2 => absurd (d2.symm.trans g2) (by simp), fun _ => ⟨fun g2 => by simp [tickR, tickC] at g2, fun _ => ⟨fun _ => ⟨fun _ => ⟨_, c16, rfl, rfl⟩, fun g2 => ?_⟩, fun g2 => ?_⟩⟩⟩⟩
    · have g2 : ¬ (tickR c s seconds c.CellOff).Level = 0 := by simpa using g2
      exact absurd e0 g2
    · have g2 : (tickR c s seconds c.CellOff).Clock = true := by simpa using g2
      have g2 : s.Clock = true := g2
      rw [g] at g2; cases g2
  · have g : (tickR c s seconds (-1)).Clock = true := by simpa using g
    have g : s.Clock = true := g
    refine ⟨fun g2 => absurd (d1.symm.trans g2) (by simp), fun _ => ⟨fun g2 => absurd (d2.symm.trans g2) (by simp), fun _ => ⟨fun g2 => by simp [tickR, tickC] at g2, fun _ => ⟨fun g2 => ?_, fun _ => ⟨fun _ => ⟨_, c16, rfl, rfl⟩, fun _ => ⟨fun _ => ⟨_, c16, rfl, rfl⟩, fun g3 => ?_⟩⟩⟩⟩⟩⟩
    · have g2 : (tickR c s seconds c.CellOff).Clock = false := by simpa using g2
      have g2 : s.Clock = false := g2
      rw [g] at g2; cases g2
    · exact absurd (of_decide_eq_false g3) (by show ¬ ¬ levelS c (tickC c s seconds c.CellOn) ≥ c.Floor; omega))
end Go.Proofs.Ytdaanpgdjjodcaa

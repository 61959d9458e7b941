/- Contracts: CheckState, New, Night, the node's night. -/
import Derived.Test.YtdaanpgdjjodcaaB
namespace Go.Proofs.Ytdaanpgdjjodcaa
open Go.RowKit
def R66 (s : List Int) (S : SpecF) (Fr : FuncId → List AV → Nat → List AV → Prop) (Q : AV → List (List AV) → Prop) : Prop :=
  ∃ (I0 : Nat → List AV → Prop), (∃ m2, I0 m2 [AV.int IntKind.i64 (0 : Int)]) ∧ ∀ (m2 : Nat) (n3 : Int), I0 m2 [AV.int IntKind.i64 n3] → (decide (n3 < (↑(List.map (AV.int IntKind.i64) s).length : Int)) = true → ∃ n7, ((0 : Int) ≤ n3 ∧ (1 : Nat) = (1 : Nat) ∧ (List.map (AV.int IntKind.i64) s)[n3.toNat]? = some (AV.int IntKind.i64 n7)) ∧ ∃ b9, S (48 : FuncId) [AV.int IntKind.i64 n7] [] (AV.bool b9) [] ∧ (b9 = true → Q (AV.int IntKind.i64 n3) []) ∧ (b9 = false → ∃ k13, k13 < m2 ∧ I0 k13 [AV.int IntKind.i64 (IntKind.i64.wrap (n3 + (1 : Int)))])) ∧ (decide (n3 < (↑(List.map (AV.int IntKind.i64) s).length : Int)) = false → Q (AV.int IntKind.i64 (-1 : Int)) [])
theorem r66 (s : List Int) (S : SpecF) (Fr : FuncId → List AV → Nat → List AV → Prop) (Q : AV → List (List AV) → Prop) : awpF Try.prog ⟨S, Fr, ⟨[], [], []⟩⟩ 0 ⟨[0, 1, 4, 5, 7, 8, 9, 16], [⟨2, [(8, .int .i64 0)], [], []⟩], [], []⟩ Try.f66 [.slc 3 (List.map (AV.int .i64) s), .fn 48 [] []] [] Q = R66 s S Fr Q := by kernel_rfl
theorem s66 (s : List Int) (v : AV) (O : List (List AV)) (h : R66 s (SpecOf Try.prog) (FreshOf Try.prog) (fun r O' => r = v ∧ O' = O)) : SpecOf Try.prog 66 [.slc 3 (List.map (AV.int .i64) s), .fn 48 [] []] [] v O :=
  spec_by (boxes := []) mixed Try.func66 Try.call66 rfl rfl rfl (Nat.le_of_ble_eq_true rfl) (r66 s (SpecOf Try.prog) (FreshOf Try.prog) _) h
def idxS : Nat → List Int → Int
  | _, [] => -1
  | i, x :: r => if wildB x then i else idxS (i + 1) r
theorem idxS_ge : ∀ (l : List Int) (i : Nat), (0 ≤ idxS i l) = l.any wildB := by
  intro l
  induction l with
  | nil => intro i; simp [idxS]
  | cons x r ih =>
    intro i
    simp only [idxS, List.any_cons]
    by_cases h : wildB x = true
    · simp [h]
    · simp [h, ih]
theorem idxS_at {l : List Int} {k : Nat} {x : Int} (h : l[k]? = some x) : idxS k (l.drop k) = if wildB x then (k : Int) else idxS (k + 1) (l.drop (k + 1)) := by
  obtain ⟨hk, rfl⟩ := List.getElem?_eq_some_iff.1 h
  rw [List.drop_eq_getElem_cons hk]
  simp [idxS]
theorem c66 (s : List Int) (hl : s.length ≤ 1000000) : Sp 66 [.slc 3 (List.map (AV.int .i64) s), .fn 48 [] []] [] (.int .i64 (idxS 0 s)) [] := s66 s _ _ (by
  refine ⟨fun m vs => ∃ n : Nat, vs = [.int .i64 n] ∧ n ≤ s.length ∧ m = s.length - n ∧ idxS n (s.drop n) = idxS 0 s, ⟨_, 0, rfl, by omega, rfl, rfl⟩, ?_⟩
  rintro m n ⟨k, hk, hle, rfl, hn⟩
  cases hk
  refine ⟨fun h3 => ?_, fun h3 => ⟨?_, rfl⟩⟩
  · have h3 : k < s.length := by simpa using h3
    obtain ⟨x, hx, hx'⟩ := map_get (f := AV.int .i64) (l := s) (n := (k : Int)) (by omega) (by omega)
    simp only [Int.toNat_natCast] at hx
    have hat := idxS_at hx
    refine ⟨x, ⟨by omega, rfl, hx'⟩, _, c48 x, fun h4 => ⟨?_, rfl⟩, fun h4 => ⟨_, ?_, k + 1, ?_, by omega, rfl, ?_⟩⟩
    · rw [← hn, hat, h4]; rfl
    · omega
    · rw [wrap1 (m := s.length) (by omega) (by omega) (by omega)]; rfl
    · rw [← hn, hat, h4]; rfl
  · have : k = s.length := by simp at h3; omega
    rw [← hn, this, List.drop_length]; rfl)
def R47 (s : List Int) (S : SpecF) (Fr : FuncId → List AV → Nat → List AV → Prop) (Q : AV → List (List AV) → Prop) : Prop :=
  ∃ n0, S (66 : Nat) [AV.slc (3 : Nat) (List.map (AV.int IntKind.i64) s), AV.fn (48 : FuncId) [] []] [] (AV.int IntKind.i64 n0) [] ∧ Q (AV.bool (decide (n0 ≥ (0 : Int)))) []
theorem r47 (s : List Int) (S : SpecF) (Fr : FuncId → List AV → Nat → List AV → Prop) (Q : AV → List (List AV) → Prop) : awpF Try.prog ⟨S, Fr, ⟨[], [], []⟩⟩ 0 ⟨[0, 1, 4], [], [], []⟩ Try.f47 [.slc 3 (List.map (AV.int .i64) s), .fn 48 [] []] [] Q = R47 s S Fr Q := by kernel_rfl
theorem s47 (s : List Int) (v : AV) (O : List (List AV)) (h : R47 s (SpecOf Try.prog) (FreshOf Try.prog) (fun r O' => r = v ∧ O' = O)) : SpecOf Try.prog 47 [.slc 3 (List.map (AV.int .i64) s), .fn 48 [] []] [] v O :=
  spec_by (boxes := []) mixed Try.func47 Try.call47 rfl rfl rfl (Nat.le_of_ble_eq_true rfl) (r47 s (SpecOf Try.prog) (FreshOf Try.prog) _) h
theorem c47 (s : List Int) (hl : s.length ≤ 1000000) : Sp 47 [.slc 3 (List.map (AV.int .i64) s), .fn 48 [] []] [] (.bool (s.any wildB)) [] := s47 s _ _ (by
  refine ⟨_, c66 s hl, ?_, rfl⟩
  have := idxS_ge s 0
  congr 1
  rw [Bool.eq_iff_iff, decide_eq_true_eq, ← this])
def R21 (c : TNdSet) (s : TNdState) (S : SpecF) (Fr : FuncId → List AV → Nat → List AV → Prop) (Q : AV → List (List AV) → Prop) : Prop :=
  ∃ n0, S (26 : Nat) [c.av] [] (AV.int IntKind.i64 n0) [] ∧ ((n0 != (0 : Int)) = true → Q (AV.int IntKind.i64 n0) []) ∧ ((n0 != (0 : Int)) = false → ((s.Numbers0 == (0 : Int)) = true → ((6 : Nat) ≤ (21 : Nat) ∧ ones s.cs = true) ∧ ∃ b7, S (47 : Nat) [AV.slc (3 : Nat) [AV.int IntKind.i64 s.Numbers0, AV.int IntKind.i64 s.Numbers1, AV.int IntKind.i64 s.Numbers2, AV.int IntKind.i64 s.Numbers3, AV.int IntKind.i64 s.Numbers4, AV.int IntKind.i64 s.Numbers5], AV.fn (48 : Nat) [] []] [] (AV.bool b7) [] ∧ ((!!b7) = true → Q (AV.int IntKind.i64 (6 : Int)) []) ∧ ((!!b7) = false → ∃ b11, S (38 : Nat) [AV.int IntKind.i64 s.Time, AV.int IntKind.i64 (0 : Int), AV.int IntKind.i64 (4000000000 : Int)] [] (AV.bool b11) [] ∧ ((!b11) = true → Q (AV.int IntKind.i64 (6 : Int)) []) ∧ ((!b11) = false → ((!s.Clock) = true → (decide (s.Time > (0 : Int)) = true → Q (AV.int IntKind.i64 (6 : Int)) []) ∧ (decide (s.Time > (0 : Int)) = false → ∃ n19, S (49 : Nat) [s.Plan.av, c.av] [] (AV.int IntKind.i64 n19) [] ∧ ((n19 != (0 : Int)) = true → Q (AV.int IntKind.i64 (6 : Int)) []) ∧ ((n19 != (0 : Int)) = false → ∃ b23, S (45 : Nat) [s.Dim.av, AV.ref (0 : Nat) (0 : Nat)] [c.cs] (AV.bool b23) [c.cs] ∧ ((!b23) = true → Q (AV.int IntKind.i64 (6 : Int)) []) ∧ ((!b23) = false → ∃ b27, S (45 : Nat) [s.Force.av, AV.ref (0 : Nat) (0 : Nat)] [c.cs] (AV.bool b27) [c.cs] ∧ ((!b27) = true → Q (AV.int IntKind.i64 (6 : Int)) []) ∧ ((!b27) = false → ∃ b31, S (38 : Nat) [AV.int IntKind.i64 s.Version, AV.int IntKind.i64 (0 : Int), AV.int IntKind.i64 (1000000 : Int)] [] (AV.bool b31) [] ∧ ((!b31) = true → Q (AV.int IntKind.i64 (6 : Int)) []) ∧ ((!b31) = false → ∃ b35, S (38 : Nat) [AV.int IntKind.i64 s.Level, AV.int IntKind.i64 (0 : Int), AV.int IntKind.i64 (1000 : Int)] [] (AV.bool b35) [] ∧ ((!b35) = true → Q (AV.int IntKind.i64 (6 : Int)) []) ∧ ((!b35) = false → ∃ b39, S (38 : Nat) [AV.int IntKind.i64 s.Count, AV.int IntKind.i64 (0 : Int), AV.int IntKind.i64 (1000000000 : Int)] [] (AV.bool b39) [] ∧ ((!b39) = true → Q (AV.int IntKind.i64 (6 : Int)) []) ∧ ((!b39) = false → Q (AV.int IntKind.i64 (0 : Int)) [])))))))) ∧ ((!s.Clock) = false → ∃ n17, S (49 : Nat) [s.Plan.av, c.av] [] (AV.int IntKind.i64 n17) [] ∧ ((n17 != (0 : Int)) = true → Q (AV.int IntKind.i64 (6 : Int)) []) ∧ ((n17 != (0 : Int)) = false → ∃ b21, S (45 : Nat) [s.Dim.av, AV.ref (0 : Nat) (0 : Nat)] [c.cs] (AV.bool b21) [c.cs] ∧ ((!b21) = true → Q (AV.int IntKind.i64 (6 : Int)) []) ∧ ((!b21) = false → ∃ b25, S (45 : Nat) [s.Force.av, AV.ref (0 : Nat) (0 : Nat)] [c.cs] (AV.bool b25) [c.cs] ∧ ((!b25) = true → Q (AV.int IntKind.i64 (6 : Int)) []) ∧ ((!b25) = false → ∃ b29, S (38 : Nat) [AV.int IntKind.i64 s.Version, AV.int IntKind.i64 (0 : Int), AV.int IntKind.i64 (1000000 : Int)] [] (AV.bool b29) [] ∧ ((!b29) = true → Q (AV.int IntKind.i64 (6 : Int)) []) ∧ ((!b29) = false → ∃ b33, S (38 : Nat) [AV.int IntKind.i64 s.Level, AV.int IntKind.i64 (0 : Int), AV.int IntKind.i64 (1000 : Int)] [] (AV.bool b33) [] ∧ ((!b33) = true → Q (AV.int IntKind.i64 (6 : Int)) []) ∧ ((!b33) = false → ∃ b37, S (38 : Nat) [AV.int IntKind.i64 s.Count, AV.int IntKind.i64 (0 : Int), AV.int IntKind.i64 (1000000000 : Int)] [] (AV.bool b37) [] ∧ ((!b37) = true → Q (AV.int IntKind.i64 (6 : Int)) []) ∧ ((!b37) = false → Q (AV.int IntKind.i64 (0 : Int)) [])))))))))) ∧ ((s.Numbers0 == (0 : Int)) = false → Q (AV.int IntKind.i64 (6 : Int)) []))
theorem r21 (c : TNdSet) (s : TNdState) (S : SpecF) (Fr : FuncId → List AV → Nat → List AV → Prop) (Q : AV → List (List AV) → Prop) : awpF Try.prog ⟨S, Fr, ⟨[], [], [45]⟩⟩ 0 ⟨[0, 1, 2, 3, 4, 5, 6, 7, 11, 24, 43, 63], [], [], []⟩ Try.f21 [c.av, s.av] [] Q = R21 c s S Fr Q := by kernel_rfl
theorem s21 (c : TNdSet) (s : TNdState) (v : AV) (O : List (List AV)) (h : R21 c s (SpecOf Try.prog) (FreshOf Try.prog) (fun r O' => r = v ∧ O' = O)) : SpecOf Try.prog 21 [c.av, s.av] [] v O :=
  spec_by (boxes := []) mixed Try.func21 Try.call21 rfl rfl rfl (Nat.le_of_ble_eq_true rfl) (r21 c s (SpecOf Try.prog) (FreshOf Try.prog) _) h
theorem ones_state (s : TNdState) : ones s.cs = true := rfl
theorem c21 (c : TNdSet) (s : TNdState) : Sp 21 [c.av, s.av] [] (.int .i64 (stateS c s)) [] := s21 c s _ _ (by
  refine ⟨_, c26 c, fun h0 => ⟨by simp_all [stateS], rfl⟩, fun h0 => ⟨fun h1 => ⟨⟨by omega, rfl⟩, _, c47 (nums s) (Nat.le_of_ble_eq_true rfl), fun h2 => ?_, fun h2 => ⟨_, c38 _ _ _, fun h3 => ?_, fun h3 => ⟨fun h4 => ⟨fun h5 => ?_, fun h5 => ⟨_, c49 s.Plan c, fun h6 => ?_, fun h6 => ?_⟩⟩, fun h4 => ⟨_, c49 s.Plan c, fun h6 => ?_, fun h6 => ?_⟩⟩⟩⟩, fun h1 => ?_⟩⟩
  case refine_1 => refine ⟨?_, rfl⟩; simp_all [stateS, stateB, -List.any_eq_true, -List.any_eq_false]
  case refine_2 => refine ⟨?_, rfl⟩; simp_all [stateS, stateB, -List.any_eq_true, -List.any_eq_false]
  case refine_3 => refine ⟨?_, rfl⟩; simp_all [stateS, stateB, -List.any_eq_true, -List.any_eq_false]; omega
  case refine_4 => refine ⟨?_, rfl⟩; simp_all [stateS, stateB, -List.any_eq_true, -List.any_eq_false]
  case refine_6 => refine ⟨?_, rfl⟩; simp_all [stateS, stateB, -List.any_eq_true, -List.any_eq_false]
  case refine_8 => refine ⟨?_, rfl⟩; simp_all [stateS, stateB, -List.any_eq_true, -List.any_eq_false]
  all_goals
    refine ⟨_, c45 s.Dim c, fun h7 => ?_, fun h7 => ⟨_, c45 s.Force c, fun h8 => ?_, fun h8 => ⟨_, c38 _ _ _, fun h9 => ?_, fun h9 => ⟨_, c38 _ _ _, fun h10 => ?_, fun h10 => ⟨_, c38 _ _ _, fun h11 => ?_, fun h11 => ?_⟩⟩⟩⟩⟩ <;>
    refine ⟨?_, rfl⟩ <;> simp_all [stateS, stateB, -List.any_eq_true, -List.any_eq_false])
def x1 (s : TNdState) : Bool := s.Numbers0 == 0 && (inB s.Time 0 4000000000 && (s.Clock || s.Time == 0))
def nk (s : TNdState) : Nat → Int
  | 0 => s.Numbers0
  | 1 => s.Numbers1
  | 2 => s.Numbers2
  | 3 => s.Numbers3
  | 4 => s.Numbers4
  | _ => s.Numbers5
def acc (s : TNdState) (b : Bool) : Nat → Bool
  | 0 => b
  | 1 => b
  | n + 2 => acc s b (n + 1) && inB (nk s (n + 1)) 0 1000000000
theorem stateB_eq (c : TNdSet) (s : TNdState) : stateB c s = (acc s (x1 s) 6 && planS c s.Plan == 0 && heldB c s.Dim && heldB c s.Force && inB s.Version 0 1000000 && inB s.Level 0 1000 && inB s.Count 0 1000000000) := by
  by_cases h0 : s.Numbers0 = 0
  · by_cases ht : inB s.Time 0 4000000000 = true
    · have h1 : decide (s.Time ≤ 0) = (s.Time == 0) := by
        have := inB_iff.1 ht
        rw [Bool.eq_iff_iff]; simp; omega
      have h2 : wildB 0 = false := rfl
      have h3 : inB 0 0 1000000000 = true := rfl
      simp only [stateB, acc, x1, nk, nums, h0, h1, h2, ht, List.any_cons, List.any_nil, Bool.or_false, Bool.false_or, Bool.true_and, beq_self_eq_true, wildB, Bool.not_or, Bool.not_not]
      simp only [h3, Bool.and_true, Bool.true_and, Bool.and_assoc, Bool.and_comm, Bool.and_left_comm]
    · simp only [Bool.not_eq_true] at ht
      simp only [stateB, acc, x1, ht, Bool.and_false, Bool.false_and]
  · have h0 : (s.Numbers0 == 0) = false := by simpa using h0
    simp only [stateB, acc, x1, h0, Bool.false_and]
def R28 (c : TNdSet) (s : TNdState) (S : SpecF) (Fr : FuncId → List AV → Nat → List AV → Prop) (Q : AV → List (List AV) → Prop) : Prop :=
  ∃ n0, S (27 : Nat) [c.av] [] (AV.int IntKind.i64 n0) [] ∧ ((n0 != (0 : Int)) = true → Q (AV.int IntKind.i64 n0) []) ∧ ((n0 != (0 : Int)) = false → ∃ (J4 : List AV → Prop), (((s.Numbers0 == (0 : Int)) = true → ∃ b8, S (52 : Nat) [AV.int IntKind.i64 s.Time, AV.int IntKind.i64 (0 : Int), AV.int IntKind.i64 (4000000000 : Int)] [] (AV.bool b8) [] ∧ (b8 = true → (s.Clock = true → c.cs = c.cs ∧ s.cs = s.cs ∧ J4 [AV.bool true]) ∧ (s.Clock = false → c.cs = c.cs ∧ s.cs = s.cs ∧ J4 [AV.bool (s.Time == (0 : Int))])) ∧ (b8 = false → c.cs = c.cs ∧ s.cs = s.cs ∧ J4 [AV.bool false])) ∧ ((s.Numbers0 == (0 : Int)) = false → c.cs = c.cs ∧ s.cs = s.cs ∧ J4 [AV.bool false])) ∧ ∀ (b6 : Bool), J4 [AV.bool b6] → ∃ (J8 : List AV → Prop), (∃ (I10 : Nat → List AV → Prop), (∃ m12, I10 m12 [AV.bool b6, AV.int IntKind.i64 (1 : Int)]) ∧ ∀ (m12 : Nat) (b13 : Bool) (n14 : Int), I10 m12 [AV.bool b13, AV.int IntKind.i64 n14] → (decide (n14 < (6 : Int)) = true → ∃ (J18 : List AV → Prop), ((b13 = true → ((0 : Int) ≤ n14 ∧ n14 < (6 : Int)) ∧ (n14 = (5 : Int) → ∃ b25, S (52 : Nat) [AV.int IntKind.i64 s.Numbers5, AV.int IntKind.i64 (0 : Int), AV.int IntKind.i64 (1000000000 : Int)] [] (AV.bool b25) [] ∧ c.cs = c.cs ∧ s.cs = s.cs ∧ J18 [AV.bool b25]) ∧ (n14 = (4 : Int) → ∃ b26, S (52 : Nat) [AV.int IntKind.i64 s.Numbers4, AV.int IntKind.i64 (0 : Int), AV.int IntKind.i64 (1000000000 : Int)] [] (AV.bool b26) [] ∧ c.cs = c.cs ∧ s.cs = s.cs ∧ J18 [AV.bool b26]) ∧ (n14 = (3 : Int) → ∃ b27, S (52 : Nat) [AV.int IntKind.i64 s.Numbers3, AV.int IntKind.i64 (0 : Int), AV.int IntKind.i64 (1000000000 : Int)] [] (AV.bool b27) [] ∧ c.cs = c.cs ∧ s.cs = s.cs ∧ J18 [AV.bool b27]) ∧ (n14 = (2 : Int) → ∃ b28, S (52 : Nat) [AV.int IntKind.i64 s.Numbers2, AV.int IntKind.i64 (0 : Int), AV.int IntKind.i64 (1000000000 : Int)] [] (AV.bool b28) [] ∧ c.cs = c.cs ∧ s.cs = s.cs ∧ J18 [AV.bool b28]) ∧ (n14 = (1 : Int) → ∃ b29, S (52 : Nat) [AV.int IntKind.i64 s.Numbers1, AV.int IntKind.i64 (0 : Int), AV.int IntKind.i64 (1000000000 : Int)] [] (AV.bool b29) [] ∧ c.cs = c.cs ∧ s.cs = s.cs ∧ J18 [AV.bool b29]) ∧ (n14 = (0 : Int) → ∃ b30, S (52 : Nat) [AV.int IntKind.i64 s.Numbers0, AV.int IntKind.i64 (0 : Int), AV.int IntKind.i64 (1000000000 : Int)] [] (AV.bool b30) [] ∧ c.cs = c.cs ∧ s.cs = s.cs ∧ J18 [AV.bool b30]) ∧ True) ∧ (b13 = false → c.cs = c.cs ∧ s.cs = s.cs ∧ J18 [AV.bool false])) ∧ ∀ (b20 : Bool), J18 [AV.bool b20] → c.cs = c.cs ∧ s.cs = s.cs ∧ ∃ k24, k24 < m12 ∧ I10 k24 [AV.bool b20, AV.int IntKind.i64 (IntKind.i64.wrap (n14 + (1 : Int)))]) ∧ (decide (n14 < (6 : Int)) = false → c.cs = c.cs ∧ s.cs = s.cs ∧ J8 [AV.bool b13])) ∧ ∀ (b10 : Bool), J8 [AV.bool b10] → ∃ (J12 : List AV → Prop), ((b10 = true → ∃ n16, S (55 : Nat) [c.av, s.Plan.av] [] (AV.int IntKind.i64 n16) [] ∧ c.cs = c.cs ∧ s.cs = s.cs ∧ J12 [AV.bool (n16 == (0 : Int))]) ∧ (b10 = false → c.cs = c.cs ∧ s.cs = s.cs ∧ J12 [AV.bool false])) ∧ ∀ (b14 : Bool), J12 [AV.bool b14] → ∃ (J16 : List AV → Prop), ((b14 = true → ((s.Dim.From == (0 : Int) && (s.Dim.Until == (0 : Int) && (s.Dim.Level == (0 : Int) && true))) = true → ((s.Force.From == (0 : Int) && (s.Force.Until == (0 : Int) && (s.Force.Level == (0 : Int) && true))) = true → c.cs = c.cs ∧ s.cs = s.cs ∧ J16 [AV.bool true]) ∧ ((s.Force.From == (0 : Int) && (s.Force.Until == (0 : Int) && (s.Force.Level == (0 : Int) && true))) = false → ∃ n24, S (56 : Nat) [c.av, s.Force.av] [] (AV.int IntKind.i64 n24) [] ∧ c.cs = c.cs ∧ s.cs = s.cs ∧ J16 [AV.bool (n24 == (0 : Int))])) ∧ ((s.Dim.From == (0 : Int) && (s.Dim.Until == (0 : Int) && (s.Dim.Level == (0 : Int) && true))) = false → ∃ n22, S (56 : Nat) [c.av, s.Dim.av] [] (AV.int IntKind.i64 n22) [] ∧ ((n22 == (0 : Int)) = true → ((s.Force.From == (0 : Int) && (s.Force.Until == (0 : Int) && (s.Force.Level == (0 : Int) && true))) = true → c.cs = c.cs ∧ s.cs = s.cs ∧ J16 [AV.bool true]) ∧ ((s.Force.From == (0 : Int) && (s.Force.Until == (0 : Int) && (s.Force.Level == (0 : Int) && true))) = false → ∃ n28, S (56 : Nat) [c.av, s.Force.av] [] (AV.int IntKind.i64 n28) [] ∧ c.cs = c.cs ∧ s.cs = s.cs ∧ J16 [AV.bool (n28 == (0 : Int))])) ∧ ((n22 == (0 : Int)) = false → c.cs = c.cs ∧ s.cs = s.cs ∧ J16 [AV.bool false]))) ∧ (b14 = false → c.cs = c.cs ∧ s.cs = s.cs ∧ J16 [AV.bool false])) ∧ ∀ (b18 : Bool), J16 [AV.bool b18] → ((!b18) = true → Q (AV.int IntKind.i64 (6 : Int)) []) ∧ ((!b18) = false → ∃ b22, S (52 : Nat) [AV.int IntKind.i64 s.Version, AV.int IntKind.i64 (0 : Int), AV.int IntKind.i64 (1000000 : Int)] [] (AV.bool b22) [] ∧ ((!b22) = true → Q (AV.int IntKind.i64 (6 : Int)) []) ∧ ((!b22) = false → ∃ b26, S (52 : Nat) [AV.int IntKind.i64 s.Level, AV.int IntKind.i64 (0 : Int), AV.int IntKind.i64 (1000 : Int)] [] (AV.bool b26) [] ∧ ((!b26) = true → Q (AV.int IntKind.i64 (6 : Int)) []) ∧ ((!b26) = false → ∃ b30, S (52 : Nat) [AV.int IntKind.i64 s.Count, AV.int IntKind.i64 (0 : Int), AV.int IntKind.i64 (1000000000 : Int)] [] (AV.bool b30) [] ∧ ((!b30) = true → Q (AV.int IntKind.i64 (6 : Int)) []) ∧ ((!b30) = false → Q (AV.int IntKind.i64 (0 : Int)) [])))))
theorem r28 (c : TNdSet) (s : TNdState) (S : SpecF) (Fr : FuncId → List AV → Nat → List AV → Prop) (Q : AV → List (List AV) → Prop) : awpF Try.prog ⟨S, Fr, ⟨[], [], []⟩⟩ 0 ⟨[0, 1, 2, 3, 4, 5, 6, 7, 11, 32, 97], [⟨6, [(6, .bool false), (7, .int .i64 0)], [], []⟩], [⟨5, [(6, .bool false)], [], []⟩, ⟨9, [(6, .bool false)], [], []⟩, ⟨7, [(6, .bool false)], [], []⟩, ⟨10, [(6, .bool false)], [], []⟩, ⟨11, [(6, .bool false)], [], []⟩], []⟩ Try.f28 [c.av, s.av] [] Q = R28 c s S Fr Q := by kernel_rfl
theorem s28 (c : TNdSet) (s : TNdState) (v : AV) (O : List (List AV)) (h : R28 c s (SpecOf Try.prog) (FreshOf Try.prog) (fun r O' => r = v ∧ O' = O)) : SpecOf Try.prog 28 [c.av, s.av] [] v O :=
  spec_by (boxes := []) mixed Try.func28 Try.call28 rfl rfl rfl (Nat.le_of_ble_eq_true rfl) (r28 c s (SpecOf Try.prog) (FreshOf Try.prog) _) h
theorem c28 (c : TNdSet) (s : TNdState) : Sp 28 [c.av, s.av] [] (.int .i64 (stateS c s)) [] := s28 c s _ _ (by
  refine ⟨_, c27 c, fun h0 => ⟨by simp_all [stateS], rfl⟩, fun h0 => ?_⟩
  have hc : checkS c = 0 := by simpa using h0
  refine ⟨fun vs => vs = [.bool (x1 s)], ?_, ?_⟩
  · refine ⟨fun h => ⟨_, c52 _ _ _, fun h2 => ⟨fun h3 => ⟨rfl, rfl, ?_⟩, fun h3 => ⟨rfl, rfl, ?_⟩⟩, fun h2 => ⟨rfl, rfl, ?_⟩⟩, fun h => ⟨rfl, rfl, ?_⟩⟩ <;> simp_all [x1]
  rintro _ ⟨⟩
  refine ⟨fun vs => vs = [.bool (acc s (x1 s) 6)], ?_, ?_⟩
  · refine ⟨fun m vs => ∃ n : Nat, 1 ≤ n ∧ n ≤ 6 ∧ m = 6 - n ∧ vs = [.bool (acc s (x1 s) n), .int .i64 n], ⟨_, 1, by omega, by omega, rfl, rfl⟩, ?_⟩
    rintro m b n ⟨k, h1, h6, rfl, hk⟩
    cases hk
    refine ⟨fun h => ⟨fun vs => vs = [.bool (acc s (x1 s) (k + 1))], ⟨fun hb => ⟨⟨by omega, by simpa using h⟩, ?_, ?_, ?_, ?_, ?_, ?_, trivial⟩, fun hb => ⟨rfl, rfl, ?_⟩⟩, ?_⟩, fun h => ⟨rfl, rfl, ?_⟩⟩
    · intro hk; obtain rfl : k = 5 := by omega
      exact ⟨_, c52 _ _ _, rfl, rfl, by simp [acc, nk] at hb ⊢; simp [hb]⟩
    · intro hk; obtain rfl : k = 4 := by omega
      exact ⟨_, c52 _ _ _, rfl, rfl, by simp [acc, nk] at hb ⊢; simp [hb]⟩
    · intro hk; obtain rfl : k = 3 := by omega
      exact ⟨_, c52 _ _ _, rfl, rfl, by simp [acc, nk] at hb ⊢; simp [hb]⟩
    · intro hk; obtain rfl : k = 2 := by omega
      exact ⟨_, c52 _ _ _, rfl, rfl, by simp [acc, nk] at hb ⊢; simp [hb]⟩
    · intro hk; obtain rfl : k = 1 := by omega
      exact ⟨_, c52 _ _ _, rfl, rfl, by simp [acc, nk] at hb ⊢; simp [hb]⟩
    · intro hk; omega
    · obtain ⟨j, rfl⟩ : ∃ j, k = j + 1 := ⟨k - 1, by omega⟩
      simp only [acc, hb, Bool.false_and]
    · rintro _ ⟨⟩
      exact ⟨rfl, rfl, 6 - (k + 1), by have := of_decide_eq_true h; omega, k + 1, by omega, by have := of_decide_eq_true h; omega, rfl, by rw [wrap1 (m := 7) (by omega) (by omega) (by omega)]; rfl⟩
    · have h := of_decide_eq_false h
      obtain rfl : k = 6 := by omega
      rfl
  rintro _ ⟨⟩
  refine ⟨fun vs => vs = [.bool (acc s (x1 s) 6 && planS c s.Plan == 0)], ⟨fun h => ⟨_, c55 c s.Plan, rfl, rfl, by simp [h]⟩, fun h => ⟨rfl, rfl, by simp [h]⟩⟩, ?_⟩
  rintro _ ⟨⟩
  refine ⟨fun vs => vs = [.bool (acc s (x1 s) 6 && planS c s.Plan == 0 && heldB c s.Dim && heldB c s.Force)], ⟨fun h => ⟨fun h1 => ⟨fun h2 => ⟨rfl, rfl, ?_⟩, fun h2 => ⟨_, c56 c s.Force hc, rfl, rfl, ?_⟩⟩, fun h1 => ⟨_, c56 c s.Dim hc, fun h3 => ⟨fun h2 => ⟨rfl, rfl, ?_⟩, fun h2 => ⟨_, c56 c s.Force hc, rfl, rfl, ?_⟩⟩, fun h3 => ⟨rfl, rfl, ?_⟩⟩⟩, fun h => ⟨rfl, rfl, ?_⟩⟩, ?_⟩
  · rw [h]; simp_all [heldB, hzB]
  · rw [h]; simp_all [heldB, hzB]
  · rw [h]; simp_all [heldB, hzB]
  · rw [h]; simp_all [heldB, hzB]
  · rw [h]; simp_all [heldB, hzB]
  · rw [h]; rfl
  rintro _ ⟨⟩
  refine ⟨fun h1 => ?_, fun h1 => ⟨_, c52 _ _ _, fun h2 => ?_, fun h2 => ⟨_, c52 _ _ _, fun h3 => ?_, fun h3 => ⟨_, c52 _ _ _, fun h4 => ?_, fun h4 => ?_⟩⟩⟩⟩ <;> refine ⟨?_, rfl⟩ <;> rw [stateS, stateB_eq]
  · rw [Bool.not_eq_true'] at h1; rw [h1, if_neg (by simp [hc])]; rfl
  all_goals simp_all)
def R17 (c : TNdSet) (S : SpecF) (Fr : FuncId → List AV → Nat → List AV → Prop) (Q : AV → List (List AV) → Prop) : Prop :=
  ∃ n0, S (26 : Nat) [c.av] [] (AV.int IntKind.i64 n0) [] ∧ ((n0 != (0 : Int)) = true → Q (AV.tup [TNdState.zero.av, AV.int IntKind.i64 n0]) []) ∧ ((n0 != (0 : Int)) = false → Q (AV.tup [AV.agg [AV.int IntKind.i64 (0 : Int), AV.int IntKind.i64 (0 : Int), AV.int IntKind.i64 (0 : Int), AV.int IntKind.i64 (0 : Int), AV.int IntKind.i64 (0 : Int), AV.int IntKind.i64 (0 : Int), AV.bool false, AV.int IntKind.i64 (0 : Int), AV.int IntKind.i64 (0 : Int), AV.slc (3 : Nat) [], AV.int IntKind.i64 (0 : Int), AV.int IntKind.i64 (0 : Int), AV.int IntKind.i64 (0 : Int), AV.int IntKind.i64 (0 : Int), AV.int IntKind.i64 (0 : Int), AV.int IntKind.i64 (0 : Int), AV.int IntKind.i64 (0 : Int), AV.bool true, AV.bool false, AV.int IntKind.i64 (1000 : Int), AV.int IntKind.i64 (0 : Int)], AV.int IntKind.i64 (0 : Int)]) [])
theorem r17 (c : TNdSet) (S : SpecF) (Fr : FuncId → List AV → Nat → List AV → Prop) (Q : AV → List (List AV) → Prop) : awpF Try.prog ⟨S, Fr, ⟨[], [], []⟩⟩ 0 ⟨[0, 1, 2, 3, 4, 8], [], [], []⟩ Try.f17 [c.av] [] Q = R17 c S Fr Q := by kernel_rfl
theorem s17 (c : TNdSet) (v : AV) (O : List (List AV)) (h : R17 c (SpecOf Try.prog) (FreshOf Try.prog) (fun r O' => r = v ∧ O' = O)) : SpecOf Try.prog 17 [c.av] [] v O :=
  spec_by (boxes := []) mixed Try.func17 Try.call17 rfl rfl rfl (Nat.le_of_ble_eq_true rfl) (r17 c (SpecOf Try.prog) (FreshOf Try.prog) _) h
theorem c17 (c : TNdSet) : Sp 17 [c.av] [] (.tup [(newS c).1.av, .int .i64 (newS c).2]) [] := s17 c _ _ (by
  refine ⟨_, c26 c, fun h => ⟨?_, rfl⟩, fun h => ⟨?_, rfl⟩⟩
  · have : checkS c ≠ 0 := by simpa using h
    rw [newS, if_pos this]
  · have : checkS c = 0 := by simpa using h
    rw [newS, if_neg (by simp [this])]; rfl)
def R25 (c : TNdSet) (S : SpecF) (Fr : FuncId → List AV → Nat → List AV → Prop) (Q : AV → List (List AV) → Prop) : Prop :=
  ∃ n0, S (27 : Nat) [c.av] [] (AV.int IntKind.i64 n0) [] ∧ ((n0 != (0 : Int)) = true → Q (AV.tup [TNdState.zero.av, AV.int IntKind.i64 n0]) []) ∧ ((n0 != (0 : Int)) = false → Q (AV.tup [AV.agg [AV.int IntKind.i64 (0 : Int), AV.int IntKind.i64 (0 : Int), AV.int IntKind.i64 (0 : Int), AV.int IntKind.i64 (0 : Int), AV.int IntKind.i64 (0 : Int), AV.int IntKind.i64 (0 : Int), AV.bool false, AV.int IntKind.i64 (0 : Int), AV.int IntKind.i64 (0 : Int), AV.slc (3 : Nat) [], AV.int IntKind.i64 (0 : Int), AV.int IntKind.i64 (0 : Int), AV.int IntKind.i64 (0 : Int), AV.int IntKind.i64 (0 : Int), AV.int IntKind.i64 (0 : Int), AV.int IntKind.i64 (0 : Int), AV.int IntKind.i64 (0 : Int), AV.bool true, AV.bool false, AV.int IntKind.i64 (1000 : Int), AV.int IntKind.i64 (0 : Int)], AV.int IntKind.i64 (0 : Int)]) [])
theorem r25 (c : TNdSet) (S : SpecF) (Fr : FuncId → List AV → Nat → List AV → Prop) (Q : AV → List (List AV) → Prop) : awpF Try.prog ⟨S, Fr, ⟨[], [], []⟩⟩ 0 ⟨[0, 1, 2, 3, 4, 8], [], [], []⟩ Try.f25 [c.av] [] Q = R25 c S Fr Q := by kernel_rfl
theorem s25 (c : TNdSet) (v : AV) (O : List (List AV)) (h : R25 c (SpecOf Try.prog) (FreshOf Try.prog) (fun r O' => r = v ∧ O' = O)) : SpecOf Try.prog 25 [c.av] [] v O :=
  spec_by (boxes := []) mixed Try.func25 Try.call25 rfl rfl rfl (Nat.le_of_ble_eq_true rfl) (r25 c (SpecOf Try.prog) (FreshOf Try.prog) _) h
theorem c25 (c : TNdSet) : Sp 25 [c.av] [] (.tup [(newS c).1.av, .int .i64 (newS c).2]) [] := s25 c _ _ (by
  refine ⟨_, c27 c, fun h => ⟨?_, rfl⟩, fun h => ⟨?_, rfl⟩⟩
  · have : checkS c ≠ 0 := by simpa using h
    rw [newS, if_pos this]
  · have : checkS c = 0 := by simpa using h
    rw [newS, if_neg (by simp [this])]; rfl)
end Go.Proofs.Ytdaanpgdjjodcaa

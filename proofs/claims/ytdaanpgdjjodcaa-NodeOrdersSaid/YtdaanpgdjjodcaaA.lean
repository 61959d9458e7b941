/- Contracts of the node's small functions: the program's and the reference's. -/
import Derived.Test.YtdaanpgdjjodcaaP
namespace Go.Proofs.Ytdaanpgdjjodcaa
open Go.RowKit
def R38 (n : Int) (low : Int) (high : Int) (S : SpecF) (Fr : FuncId → List AV → Nat → List AV → Prop) (Q : AV → List (List AV) → Prop) : Prop :=
  (decide (low ≤ n) = true → Q (AV.bool (decide (n ≤ high))) []) ∧ (decide (low ≤ n) = false → Q (AV.bool false) [])
theorem r38 (n : Int) (low : Int) (high : Int) (S : SpecF) (Fr : FuncId → List AV → Nat → List AV → Prop) (Q : AV → List (List AV) → Prop) : awpF Try.prog ⟨S, Fr, ⟨[], [], []⟩⟩ 0 ⟨[0, 1, 2, 6], [], [], []⟩ Try.f38 [.int .i64 n, .int .i64 low, .int .i64 high] [] Q = R38 n low high S Fr Q := by kernel_rfl
theorem s38 (n : Int) (low : Int) (high : Int) (v : AV) (O : List (List AV)) (h : R38 n low high (SpecOf Try.prog) (FreshOf Try.prog) (fun r O' => r = v ∧ O' = O)) : SpecOf Try.prog 38 [.int .i64 n, .int .i64 low, .int .i64 high] [] v O :=
  spec_by (boxes := []) mixed Try.func38 Try.call38 rfl rfl rfl (Nat.le_of_ble_eq_true rfl) (r38 n low high (SpecOf Try.prog) (FreshOf Try.prog) _) h
theorem c38 (n lo hi : Int) : Sp 38 [.int .i64 n, .int .i64 lo, .int .i64 hi] [] (.bool (inB n lo hi)) [] :=
  s38 n lo hi _ _ ⟨fun h => by simp [inB, h], fun h => by simp [inB, h]⟩
def R52 (n : Int) (low : Int) (high : Int) (S : SpecF) (Fr : FuncId → List AV → Nat → List AV → Prop) (Q : AV → List (List AV) → Prop) : Prop :=
  (decide (n ≥ low) = true → Q (AV.bool (decide (n ≤ high))) []) ∧ (decide (n ≥ low) = false → Q (AV.bool false) [])
theorem r52 (n : Int) (low : Int) (high : Int) (S : SpecF) (Fr : FuncId → List AV → Nat → List AV → Prop) (Q : AV → List (List AV) → Prop) : awpF Try.prog ⟨S, Fr, ⟨[], [], []⟩⟩ 0 ⟨[0, 1, 2, 6], [], [], []⟩ Try.f52 [.int .i64 n, .int .i64 low, .int .i64 high] [] Q = R52 n low high S Fr Q := by kernel_rfl
theorem s52 (n : Int) (low : Int) (high : Int) (v : AV) (O : List (List AV)) (h : R52 n low high (SpecOf Try.prog) (FreshOf Try.prog) (fun r O' => r = v ∧ O' = O)) : SpecOf Try.prog 52 [.int .i64 n, .int .i64 low, .int .i64 high] [] v O :=
  spec_by (boxes := []) mixed Try.func52 Try.call52 rfl rfl rfl (Nat.le_of_ble_eq_true rfl) (r52 n low high (SpecOf Try.prog) (FreshOf Try.prog) _) h
theorem c52 (n lo hi : Int) : Sp 52 [.int .i64 n, .int .i64 lo, .int .i64 hi] [] (.bool (inB n lo hi)) [] :=
  s52 n lo hi _ _ ⟨fun h => by simp_all [inB], fun h => by simp_all [inB]; omega⟩
def R50 (x : TSnNight) (S : SpecF) (Fr : FuncId → List AV → Nat → List AV → Prop) (Q : AV → List (List AV) → Prop) : Prop :=
  ∃ b0, S (38 : Nat) [AV.int IntKind.i64 x.On, AV.int IntKind.i64 (0 : Int), AV.int IntKind.i64 (86400 : Int)] [] (AV.bool b0) [] ∧ (b0 = true → (decide (x.Off > x.On) = true → Q (AV.bool (decide (x.Off ≤ IntKind.i64.wrap (x.On + (86400 : Int))))) []) ∧ (decide (x.Off > x.On) = false → Q (AV.bool false) [])) ∧ (b0 = false → Q (AV.bool false) [])
theorem r50 (x : TSnNight) (S : SpecF) (Fr : FuncId → List AV → Nat → List AV → Prop) (Q : AV → List (List AV) → Prop) : awpF Try.prog ⟨S, Fr, ⟨[], [], []⟩⟩ 0 ⟨[0, 1, 2], [], [], []⟩ Try.f50 [x.av] [] Q = R50 x S Fr Q := by kernel_rfl
theorem s50 (x : TSnNight) (v : AV) (O : List (List AV)) (h : R50 x (SpecOf Try.prog) (FreshOf Try.prog) (fun r O' => r = v ∧ O' = O)) : SpecOf Try.prog 50 [x.av] [] v O :=
  spec_by (boxes := []) mixed Try.func50 Try.call50 rfl rfl rfl (Nat.le_of_ble_eq_true rfl) (r50 x (SpecOf Try.prog) (FreshOf Try.prog) _) h
theorem c50 (x : TSnNight) : Sp 50 [x.av] [] (.bool (goodB x)) [] := s50 x _ _ (by
  refine ⟨_, c38 _ _ _, fun h => ?_, fun h => ⟨by simp [goodB, h], rfl⟩⟩
  have h' := inB_iff.1 h
  refine ⟨fun h2 => ⟨?_, rfl⟩, fun h2 => ⟨?_, rfl⟩⟩
  · rw [IntWalk.i64_in (x.On + 86400) (by omega)]; simp_all [goodB]
  · simp_all [goodB]; omega)
def R51 (x : TSnNight) (y : TSnNight) (S : SpecF) (Fr : FuncId → List AV → Nat → List AV → Prop) (Q : AV → List (List AV) → Prop) : Prop :=
  (decide (x.On ≤ y.On) = true → Q (AV.bool (decide (y.Off ≤ x.Off))) []) ∧ (decide (x.On ≤ y.On) = false → Q (AV.bool false) [])
theorem r51 (x : TSnNight) (y : TSnNight) (S : SpecF) (Fr : FuncId → List AV → Nat → List AV → Prop) (Q : AV → List (List AV) → Prop) : awpF Try.prog ⟨S, Fr, ⟨[], [], []⟩⟩ 0 ⟨[0, 1, 2, 3, 4], [], [], []⟩ Try.f51 [x.av, y.av] [] Q = R51 x y S Fr Q := by kernel_rfl
theorem s51 (x : TSnNight) (y : TSnNight) (v : AV) (O : List (List AV)) (h : R51 x y (SpecOf Try.prog) (FreshOf Try.prog) (fun r O' => r = v ∧ O' = O)) : SpecOf Try.prog 51 [x.av, y.av] [] v O :=
  spec_by (boxes := []) mixed Try.func51 Try.call51 rfl rfl rfl (Nat.le_of_ble_eq_true rfl) (r51 x y (SpecOf Try.prog) (FreshOf Try.prog) _) h
theorem c51 (x y : TSnNight) : Sp 51 [x.av, y.av] [] (.bool (covB x y)) [] := s51 x y _ _ (by
  refine ⟨fun h => ⟨?_, rfl⟩, fun h => ⟨?_, rfl⟩⟩
  · simp_all [covB]
  · simp_all [covB]; omega)
def R53 (x : TSnNight) (S : SpecF) (Fr : FuncId → List AV → Nat → List AV → Prop) (Q : AV → List (List AV) → Prop) : Prop :=
  ∃ b0, S (52 : Nat) [AV.int IntKind.i64 x.On, AV.int IntKind.i64 (0 : Int), AV.int IntKind.i64 (86400 : Int)] [] (AV.bool b0) [] ∧ (b0 = true → ∃ b4, S (52 : Nat) [AV.int IntKind.i64 x.Off, AV.int IntKind.i64 (IntKind.i64.wrap (x.On + (1 : Int))), AV.int IntKind.i64 (IntKind.i64.wrap (x.On + (86400 : Int)))] [] (AV.bool b4) [] ∧ Q (AV.bool b4) []) ∧ (b0 = false → Q (AV.bool false) [])
theorem r53 (x : TSnNight) (S : SpecF) (Fr : FuncId → List AV → Nat → List AV → Prop) (Q : AV → List (List AV) → Prop) : awpF Try.prog ⟨S, Fr, ⟨[], [], []⟩⟩ 0 ⟨[0, 1, 2], [], [], []⟩ Try.f53 [x.av] [] Q = R53 x S Fr Q := by kernel_rfl
theorem s53 (x : TSnNight) (v : AV) (O : List (List AV)) (h : R53 x (SpecOf Try.prog) (FreshOf Try.prog) (fun r O' => r = v ∧ O' = O)) : SpecOf Try.prog 53 [x.av] [] v O :=
  spec_by (boxes := []) mixed Try.func53 Try.call53 rfl rfl rfl (Nat.le_of_ble_eq_true rfl) (r53 x (SpecOf Try.prog) (FreshOf Try.prog) _) h
theorem c53 (x : TSnNight) : Sp 53 [x.av] [] (.bool (goodB x)) [] := s53 x _ _ (by
  refine ⟨_, c52 _ _ _, fun h => ⟨_, c52 _ _ _, ?_, rfl⟩, fun h => ⟨by simp [goodB, h], rfl⟩⟩
  have h' := inB_iff.1 h
  rw [IntWalk.i64_in (x.On + 86400) (by omega), IntWalk.i64_in (x.On + 1) (by omega)]
  have h1 : inB x.Off (x.On + 1) (x.On + 86400) = (decide (x.On < x.Off) && decide (x.Off ≤ x.On + 86400)) := rfl
  rw [h1, goodB, h, Bool.true_and])
def R54 (x : TSnNight) (y : TSnNight) (S : SpecF) (Fr : FuncId → List AV → Nat → List AV → Prop) (Q : AV → List (List AV) → Prop) : Prop :=
  (decide (x.On ≤ y.On) = true → Q (AV.bool (decide (x.Off ≥ y.Off))) []) ∧ (decide (x.On ≤ y.On) = false → Q (AV.bool false) [])
theorem r54 (x : TSnNight) (y : TSnNight) (S : SpecF) (Fr : FuncId → List AV → Nat → List AV → Prop) (Q : AV → List (List AV) → Prop) : awpF Try.prog ⟨S, Fr, ⟨[], [], []⟩⟩ 0 ⟨[0, 1, 2, 3, 4], [], [], []⟩ Try.f54 [x.av, y.av] [] Q = R54 x y S Fr Q := by kernel_rfl
theorem s54 (x : TSnNight) (y : TSnNight) (v : AV) (O : List (List AV)) (h : R54 x y (SpecOf Try.prog) (FreshOf Try.prog) (fun r O' => r = v ∧ O' = O)) : SpecOf Try.prog 54 [x.av, y.av] [] v O :=
  spec_by (boxes := []) mixed Try.func54 Try.call54 rfl rfl rfl (Nat.le_of_ble_eq_true rfl) (r54 x y (SpecOf Try.prog) (FreshOf Try.prog) _) h
theorem c54 (x y : TSnNight) : Sp 54 [x.av, y.av] [] (.bool (covB x y)) [] := s54 x y _ _ (by
  refine ⟨fun h => ⟨?_, rfl⟩, fun h => ⟨?_, rfl⟩⟩
  · simp_all [covB]
  · simp_all [covB]; omega)
def R26 (c : TNdSet) (S : SpecF) (Fr : FuncId → List AV → Nat → List AV → Prop) (Q : AV → List (List AV) → Prop) : Prop :=
  ∃ b0, S (38 : Nat) [AV.int IntKind.i64 c.Floor, AV.int IntKind.i64 (1 : Int), AV.int IntKind.i64 (1000 : Int)] [] (AV.bool b0) [] ∧ ((!b0) = true → Q (AV.int IntKind.i64 (7 : Int)) []) ∧ ((!b0) = false → ∃ b4, S (38 : Nat) [AV.int IntKind.i64 c.Hold, AV.int IntKind.i64 (1 : Int), AV.int IntKind.i64 (86400 : Int)] [] (AV.bool b4) [] ∧ ((!b4) = true → Q (AV.int IntKind.i64 (7 : Int)) []) ∧ ((!b4) = false → ∃ b8, S (38 : Nat) [AV.int IntKind.i64 c.CellOn, AV.int IntKind.i64 (0 : Int), AV.int IntKind.i64 (1000000000 : Int)] [] (AV.bool b8) [] ∧ ((!b8) = true → Q (AV.int IntKind.i64 (7 : Int)) []) ∧ ((!b8) = false → ∃ b12, S (38 : Nat) [AV.int IntKind.i64 c.CellOff, AV.int IntKind.i64 (0 : Int), AV.int IntKind.i64 (1000000000 : Int)] [] (AV.bool b12) [] ∧ ((!b12) = true → Q (AV.int IntKind.i64 (7 : Int)) []) ∧ ((!b12) = false → ∃ b16, S (50 : Nat) [c.Core.av] [] (AV.bool b16) [] ∧ ((!b16) = true → Q (AV.int IntKind.i64 (2 : Int)) []) ∧ ((!b16) = false → ∃ b20, S (50 : Nat) [c.Default.av] [] (AV.bool b20) [] ∧ ((!b20) = true → Q (AV.int IntKind.i64 (2 : Int)) []) ∧ ((!b20) = false → ∃ b24, S (51 : Nat) [c.Default.av, c.Core.av] [] (AV.bool b24) [] ∧ ((!b24) = true → Q (AV.int IntKind.i64 (2 : Int)) []) ∧ ((!b24) = false → (decide (c.CellOn ≥ c.CellOff) = true → Q (AV.int IntKind.i64 (2 : Int)) []) ∧ (decide (c.CellOn ≥ c.CellOff) = false → Q (AV.int IntKind.i64 (0 : Int)) []))))))))
theorem r26 (c : TNdSet) (S : SpecF) (Fr : FuncId → List AV → Nat → List AV → Prop) (Q : AV → List (List AV) → Prop) : awpF Try.prog ⟨S, Fr, ⟨[], [], []⟩⟩ 0 ⟨[0, 1, 2, 3, 26], [], [], []⟩ Try.f26 [c.av] [] Q = R26 c S Fr Q := by kernel_rfl
theorem s26 (c : TNdSet) (v : AV) (O : List (List AV)) (h : R26 c (SpecOf Try.prog) (FreshOf Try.prog) (fun r O' => r = v ∧ O' = O)) : SpecOf Try.prog 26 [c.av] [] v O :=
  spec_by (boxes := []) mixed Try.func26 Try.call26 rfl rfl rfl (Nat.le_of_ble_eq_true rfl) (r26 c (SpecOf Try.prog) (FreshOf Try.prog) _) h
theorem c26 (c : TNdSet) : Sp 26 [c.av] [] (.int .i64 (checkS c)) [] := s26 c _ _ (by
  refine ⟨_, c38 _ _ _, fun h1 => ?_, fun h1 => ⟨_, c38 _ _ _, fun h2 => ?_, fun h2 => ⟨_, c38 _ _ _, fun h3 => ?_, fun h3 => ⟨_, c38 _ _ _, fun h4 => ?_, fun h4 => ⟨_, c50 _, fun h5 => ?_, fun h5 => ⟨_, c50 _, fun h6 => ?_, fun h6 => ⟨_, c51 _ _, fun h7 => ?_, fun h7 => ⟨fun h8 => ?_, fun h8 => ?_⟩⟩⟩⟩⟩⟩⟩⟩ <;>
      refine ⟨?_, rfl⟩ <;> simp_all [checkS])
def R27 (c : TNdSet) (S : SpecF) (Fr : FuncId → List AV → Nat → List AV → Prop) (Q : AV → List (List AV) → Prop) : Prop :=
  ∃ b0, S (52 : Nat) [AV.int IntKind.i64 c.Floor, AV.int IntKind.i64 (1 : Int), AV.int IntKind.i64 (1000 : Int)] [] (AV.bool b0) [] ∧ ((!b0) = true → Q (AV.int IntKind.i64 (7 : Int)) []) ∧ ((!b0) = false → ∃ b4, S (52 : Nat) [AV.int IntKind.i64 c.Hold, AV.int IntKind.i64 (1 : Int), AV.int IntKind.i64 (86400 : Int)] [] (AV.bool b4) [] ∧ ((!b4) = true → Q (AV.int IntKind.i64 (7 : Int)) []) ∧ ((!b4) = false → ∃ b8, S (52 : Nat) [AV.int IntKind.i64 c.CellOn, AV.int IntKind.i64 (0 : Int), AV.int IntKind.i64 (1000000000 : Int)] [] (AV.bool b8) [] ∧ ((!b8) = true → Q (AV.int IntKind.i64 (7 : Int)) []) ∧ ((!b8) = false → ∃ b12, S (52 : Nat) [AV.int IntKind.i64 c.CellOff, AV.int IntKind.i64 (0 : Int), AV.int IntKind.i64 (1000000000 : Int)] [] (AV.bool b12) [] ∧ ((!b12) = true → Q (AV.int IntKind.i64 (7 : Int)) []) ∧ ((!b12) = false → ∃ b16, S (53 : Nat) [c.Core.av] [] (AV.bool b16) [] ∧ ((!b16) = true → Q (AV.int IntKind.i64 (2 : Int)) []) ∧ ((!b16) = false → ∃ b20, S (53 : Nat) [c.Default.av] [] (AV.bool b20) [] ∧ ((!b20) = true → Q (AV.int IntKind.i64 (2 : Int)) []) ∧ ((!b20) = false → ∃ b24, S (54 : Nat) [c.Default.av, c.Core.av] [] (AV.bool b24) [] ∧ ((!b24) = true → Q (AV.int IntKind.i64 (2 : Int)) []) ∧ ((!b24) = false → (decide (c.CellOn ≥ c.CellOff) = true → Q (AV.int IntKind.i64 (2 : Int)) []) ∧ (decide (c.CellOn ≥ c.CellOff) = false → Q (AV.int IntKind.i64 (0 : Int)) []))))))))
theorem r27 (c : TNdSet) (S : SpecF) (Fr : FuncId → List AV → Nat → List AV → Prop) (Q : AV → List (List AV) → Prop) : awpF Try.prog ⟨S, Fr, ⟨[], [], []⟩⟩ 0 ⟨[0, 1, 2, 24, 49], [], [], []⟩ Try.f27 [c.av] [] Q = R27 c S Fr Q := by kernel_rfl
theorem s27 (c : TNdSet) (v : AV) (O : List (List AV)) (h : R27 c (SpecOf Try.prog) (FreshOf Try.prog) (fun r O' => r = v ∧ O' = O)) : SpecOf Try.prog 27 [c.av] [] v O :=
  spec_by (boxes := []) mixed Try.func27 Try.call27 rfl rfl rfl (Nat.le_of_ble_eq_true rfl) (r27 c (SpecOf Try.prog) (FreshOf Try.prog) _) h
theorem c27 (c : TNdSet) : Sp 27 [c.av] [] (.int .i64 (checkS c)) [] := s27 c _ _ (by
  refine ⟨_, c52 _ _ _, fun h1 => ?_, fun h1 => ⟨_, c52 _ _ _, fun h2 => ?_, fun h2 => ⟨_, c52 _ _ _, fun h3 => ?_, fun h3 => ⟨_, c52 _ _ _, fun h4 => ?_, fun h4 => ⟨_, c53 _, fun h5 => ?_, fun h5 => ⟨_, c53 _, fun h6 => ?_, fun h6 => ⟨_, c54 _ _, fun h7 => ?_, fun h7 => ⟨fun h8 => ?_, fun h8 => ?_⟩⟩⟩⟩⟩⟩⟩⟩ <;>
      refine ⟨?_, rfl⟩ <;> simp_all [checkS])
end Go.Proofs.Ytdaanpgdjjodcaa

/- Contracts: the reference's Path, Currents, Neutral. -/
import Derived.Test.YtbdbnpnichkcjaaK4
import Derived.Test.YtbdbnpnichkcjaaRe
namespace Go.Proofs.Ytbdbnpnichkcjaa
open Go.RowKit
def R37 (f : TFeFeeder) (node : Int) (S : SpecF) (_Fr : FuncId → List AV → Nat → List AV → Prop) (_Sq : FuncId → List AV → List (List AV) → List (List AV) → Prop) (Q : AV → List (List AV) → Prop) : Prop :=
  ∃ n0, S (63 : Nat) [f.av, AV.int .i64 node, AV.bool false] [] (AV.int .i64 n0) [] ∧ ((n0 != (0 : Int)) = true → Q (AV.tup [AV.slc (3 : Nat) [], AV.int .i64 n0]) []) ∧ ((n0 != (0 : Int)) = false → ∃ es4, S (90 : Nat) [f.av, AV.int .i64 node] [] (AV.slc (3 : Nat) es4) [] ∧ Q (AV.tup [AV.slc (3 : Nat) es4, AV.int .i64 (0 : Int)]) [])
theorem r37 (f : TFeFeeder) (node : Int) (S : SpecF) (Fr : FuncId → List AV → Nat → List AV → Prop) (Sq : FuncId → List AV → List (List AV) → List (List AV) → Prop) (Q : AV → List (List AV) → Prop) : awpF Try.prog (mkS Try.prog S Fr Sq ⟨[], [], [], [], []⟩ 0) 0 ⟨[0, 1, 2, 4, 5, 6, 11], [], [], []⟩ Try.f37 [f.av, .int .i64 node] [] Q = R37 f node S Fr Sq Q := by kernel_rfl
theorem s37 (f : TFeFeeder) (node : Int) (v : AV) (O : List (List AV)) (h : R37 f node (SpecOf Try.prog) (FreshOf Try.prog) (SeqOf Try.prog) (fun r O' => r = v ∧ O' = O)) : SpecOf Try.prog 37 [f.av, .int .i64 node] [] v O :=
  spec_by (boxes := []) mixed (by exact trivial) Try.func37 Try.call37 rfl rfl rfl (Nat.le_of_ble_eq_true rfl) (r37 f node (SpecOf Try.prog) (FreshOf Try.prog) (SeqOf Try.prog) _) h
theorem c37 (f : TFeFeeder) (hn : NOK f) (node : Int) : Sp 37 [f.av, .int .i64 node] [] (.tup [.slc 3 ((pathR f node).1.map nI), .int .i64 (pathR f node).2]) [] := s37 f node _ _ (by
  refine ⟨_, c63 f hn node false, fun h => ⟨?_, rfl⟩, fun h => ?_⟩
  · have h : askedS f node ≠ 0 := by simpa using h
    rw [pathR, if_pos h]; rfl
  · have h : askedS f node = 0 := by simpa using h
    obtain ⟨hf, k, rfl, hk⟩ := asked_ok h
    refine ⟨_, c90 hf k hk, ?_, rfl⟩
    rw [pathR, if_neg (by rw [h]; simp)]; rfl)
def R39 (f : TFeFeeder) (node : Int) (S : SpecF) (_Fr : FuncId → List AV → Nat → List AV → Prop) (_Sq : FuncId → List AV → List (List AV) → List (List AV) → Prop) (Q : AV → List (List AV) → Prop) : Prop :=
  ∃ n0, S (63 : Nat) [f.av, AV.int .i64 node, AV.bool true] [] (AV.int .i64 n0) [] ∧ ((n0 != (0 : Int)) = true → Q (AV.tup [AV.agg [AV.int .i64 (0 : Int), AV.int .i64 (0 : Int), AV.int .i64 (0 : Int), AV.int .i64 (0 : Int), AV.int .i64 (0 : Int), AV.int .i64 (0 : Int)], AV.int .i64 n0]) []) ∧ ((n0 != (0 : Int)) = false → ∃ n4 n5 n6 n7 n8 n9, S (71 : Nat) [f.av, AV.int .i64 node] [] (AV.agg [AV.int .i64 n4, AV.int .i64 n5, AV.int .i64 n6, AV.int .i64 n7, AV.int .i64 n8, AV.int .i64 n9]) [] ∧ Q (AV.tup [AV.agg [AV.int .i64 n4, AV.int .i64 n5, AV.int .i64 n6, AV.int .i64 n7, AV.int .i64 n8, AV.int .i64 n9], AV.int .i64 (0 : Int)]) [])
theorem r39 (f : TFeFeeder) (node : Int) (S : SpecF) (Fr : FuncId → List AV → Nat → List AV → Prop) (Sq : FuncId → List AV → List (List AV) → List (List AV) → Prop) (Q : AV → List (List AV) → Prop) : awpF Try.prog (mkS Try.prog S Fr Sq ⟨[], [], [], [], []⟩ 0) 0 ⟨[0, 1, 2, 4, 5, 6, 11], [], [], []⟩ Try.f39 [f.av, .int .i64 node] [] Q = R39 f node S Fr Sq Q := by kernel_rfl
theorem s39 (f : TFeFeeder) (node : Int) (v : AV) (O : List (List AV)) (h : R39 f node (SpecOf Try.prog) (FreshOf Try.prog) (SeqOf Try.prog) (fun r O' => r = v ∧ O' = O)) : SpecOf Try.prog 39 [f.av, .int .i64 node] [] v O :=
  spec_by (boxes := []) mixed (by exact trivial) Try.func39 Try.call39 rfl rfl rfl (Nat.le_of_ble_eq_true rfl) (r39 f node (SpecOf Try.prog) (FreshOf Try.prog) (SeqOf Try.prog) _) h
theorem c39 (f : TFeFeeder) (hn : NOK f) (node : Int) : Sp 39 [f.av, .int .i64 node] [] (.tup [.agg (curR f node).1, .int .i64 (curR f node).2]) [] := s39 f node _ _ (by
  refine ⟨_, c63 f hn node true, fun h => ⟨?_, rfl⟩, fun h => ?_⟩
  · have h : innerS f node ≠ 0 := by simpa using h
    rw [curR, if_pos h]; rfl
  · have h : innerS f node = 0 := by simpa using h
    obtain ⟨hf, k, rfl, hk, hk0⟩ := inner_ok h
    refine ⟨_, _, _, _, _, _, c71 hf k, ?_, rfl⟩
    rw [curR, if_neg (by rw [h]; simp)]; rfl)
def R40 (f : TFeFeeder) (node : Int) (S : SpecF) (_Fr : FuncId → List AV → Nat → List AV → Prop) (_Sq : FuncId → List AV → List (List AV) → List (List AV) → Prop) (Q : AV → List (List AV) → Prop) : Prop :=
  ∃ n0, S (63 : Nat) [f.av, AV.int .i64 node, AV.bool true] [] (AV.int .i64 n0) [] ∧ ((n0 != (0 : Int)) = true → Q (AV.tup [AV.int .i64 (0 : Int), AV.int .i64 n0]) []) ∧ ((n0 != (0 : Int)) = false → ∃ n4, S (91 : Nat) [f.av, AV.int .i64 node] [] (AV.int .i64 n4) [] ∧ Q (AV.tup [AV.int .i64 n4, AV.int .i64 (0 : Int)]) [])
theorem r40 (f : TFeFeeder) (node : Int) (S : SpecF) (Fr : FuncId → List AV → Nat → List AV → Prop) (Sq : FuncId → List AV → List (List AV) → List (List AV) → Prop) (Q : AV → List (List AV) → Prop) : awpF Try.prog (mkS Try.prog S Fr Sq ⟨[], [], [], [], []⟩ 0) 0 ⟨[0, 1, 2, 4, 5, 6, 11], [], [], []⟩ Try.f40 [f.av, .int .i64 node] [] Q = R40 f node S Fr Sq Q := by kernel_rfl
theorem s40 (f : TFeFeeder) (node : Int) (v : AV) (O : List (List AV)) (h : R40 f node (SpecOf Try.prog) (FreshOf Try.prog) (SeqOf Try.prog) (fun r O' => r = v ∧ O' = O)) : SpecOf Try.prog 40 [f.av, .int .i64 node] [] v O :=
  spec_by (boxes := []) mixed (by exact trivial) Try.func40 Try.call40 rfl rfl rfl (Nat.le_of_ble_eq_true rfl) (r40 f node (SpecOf Try.prog) (FreshOf Try.prog) (SeqOf Try.prog) _) h
theorem c40 (f : TFeFeeder) (hn : NOK f) (node : Int) : Sp 40 [f.av, .int .i64 node] [] (.tup [.int .i64 (neutR f node).1, .int .i64 (neutR f node).2]) [] := s40 f node _ _ (by
  refine ⟨_, c63 f hn node true, fun h => ⟨?_, rfl⟩, fun h => ?_⟩
  · have h : innerS f node ≠ 0 := by simpa using h
    rw [neutR, if_pos h]; rfl
  · have h : innerS f node = 0 := by simpa using h
    obtain ⟨hf, k, rfl, hk, hk0⟩ := inner_ok h
    refine ⟨_, c91 hf k, ?_, rfl⟩
    rw [neutR, if_neg (by rw [h]; simp)]; rfl)
def R38 (a : List Int) (b : List Int) (_S : SpecF) (_Fr : FuncId → List AV → Nat → List AV → Prop) (_Sq : FuncId → List AV → List (List AV) → List (List AV) → Prop) (Q : AV → List (List AV) → Prop) : Prop :=
  (((↑(List.map (AV.int IntKind.i64) a).length : Int) != (↑(List.map (AV.int IntKind.i64) b).length : Int)) = true → Q (AV.bool false) []) ∧ (((↑(List.map (AV.int IntKind.i64) a).length : Int) != (↑(List.map (AV.int IntKind.i64) b).length : Int)) = false → ∃ (I2 : Nat → List AV → Prop), (∃ m4, I2 m4 [AV.int .i64 (0 : Int)]) ∧ ∀ (m4 : Nat) (n5 : Int), I2 m4 [AV.int .i64 n5] → (decide (n5 < (↑(List.map (AV.int IntKind.i64) a).length : Int)) = true → ∃ n9, ((0 : Int) ≤ n5 ∧ (1 : Nat) = (1 : Nat) ∧ (List.map (AV.int IntKind.i64) a)[n5.toNat]? = some (AV.int .i64 n9)) ∧ ∃ n11, ((0 : Int) ≤ n5 ∧ (1 : Nat) = (1 : Nat) ∧ (List.map (AV.int IntKind.i64) b)[n5.toNat]? = some (AV.int .i64 n11)) ∧ ((n9 != n11) = true → Q (AV.bool false) []) ∧ ((n9 != n11) = false → ∃ k15, k15 < m4 ∧ I2 k15 [AV.int .i64 (IntKind.i64.wrap (n5 + (1 : Int)))])) ∧ (decide (n5 < (↑(List.map (AV.int IntKind.i64) a).length : Int)) = false → Q (AV.bool true) []))
theorem r38 (a : List Int) (b : List Int) (S : SpecF) (Fr : FuncId → List AV → Nat → List AV → Prop) (Sq : FuncId → List AV → List (List AV) → List (List AV) → Prop) (Q : AV → List (List AV) → Prop) : awpF Try.prog (mkS Try.prog S Fr Sq ⟨[], [], [], [], []⟩ 0) 0 ⟨[0, 1, 4, 5, 10, 14, 25], [⟨4, [(5, .int .i64 0)], [], [], [], []⟩], [], []⟩ Try.f38 [.slc 3 (List.map (AV.int .i64) a), .slc 3 (List.map (AV.int .i64) b)] [] Q = R38 a b S Fr Sq Q := by kernel_rfl
theorem s38 (a : List Int) (b : List Int) (v : AV) (O : List (List AV)) (h : R38 a b (SpecOf Try.prog) (FreshOf Try.prog) (SeqOf Try.prog) (fun r O' => r = v ∧ O' = O)) : SpecOf Try.prog 38 [.slc 3 (List.map (AV.int .i64) a), .slc 3 (List.map (AV.int .i64) b)] [] v O :=
  spec_by (boxes := []) mixed (by exact trivial) Try.func38 Try.call38 rfl rfl rfl (Nat.le_of_ble_eq_true rfl) (r38 a b (SpecOf Try.prog) (FreshOf Try.prog) (SeqOf Try.prog) _) h
theorem c38 (a : List Int) (hl : a.length ≤ 1000000) : Sp 38 [.slc 3 (a.map (AV.int .i64)), .slc 3 (a.map (AV.int .i64))] [] (.bool true) [] := s38 a a _ _ (by
  unfold R38
  refine ⟨fun h => ?_, fun _ => ?_⟩
  · simp at h
  simp only [List.length_map]
  refine ⟨fun m vs => ∃ k : Nat, k ≤ a.length ∧ m = a.length - k ∧ vs = [.int .i64 k], ⟨_, 0, by omega, rfl, rfl⟩, ?_⟩
  rintro m n ⟨k, hk, rfl, hv⟩
  cases hv
  refine ⟨fun g => ?_, fun _ => ⟨by trivial, by trivial⟩⟩
  have g : k < a.length := by simpa using g
  obtain ⟨x, _, hx⟩ := map_getN (f := AV.int .i64) g
  refine ⟨x, ⟨by omega, by trivial, hx⟩, x, ⟨by omega, by trivial, hx⟩, fun q => ?_, fun q => ?_⟩
  · simp at q
  · repeat first | refine And.intro rfl ?_ | refine And.intro trivial ?_
    exact ⟨_, (by omega : a.length - (k + 1) < a.length - k), k + 1, by omega, rfl, by rw [wrapN (by omega)]⟩)
end Go.Proofs.Ytbdbnpnichkcjaa

/- Contracts: the reference's Check and what asks it. -/
import Derived.Test.YtbdbnpnichkcjaaRa
namespace Go.Proofs.Ytbdbnpnichkcjaa
open Go.RowKit
/-- The rest of a loop that looks for the first error. -/
def restE (e : Nat → Int) (n k : Nat) : Int × Int := firstE e (n - k) k
theorem restE_at {e : Nat → Int} {n k : Nat} (h : k < n) : restE e n k = if e k ≠ 0 then ((k : Int), e k) else restE e n (k + 1) := firstE_at h
theorem restE_end {e : Nat → Int} {n : Nat} : restE e n n = (0, 0) := by unfold restE; rw [Nat.sub_self]; rfl
def R16 (f : TFeFeeder) (S : SpecF) (Fr : FuncId → List AV → Nat → List AV → Prop) (Sq : FuncId → List AV → List (List AV) → List (List AV) → Prop) (Q : AV → List (List AV) → Prop) : Prop :=
  (decide ((↑(List.map TFeCable.av f.Cables).length : Int) > (10 : Int)) = true → Q (AV.tup [AV.int IntKind.i64 (0 : Int), AV.int IntKind.i64 (0 : Int), AV.int IntKind.i64 (3 : Int)]) []) ∧ (decide ((↑(List.map TFeCable.av f.Cables).length : Int) > (10 : Int)) = false → (decide ((↑(List.map TFeFuse.av f.Fuses).length : Int) > (10 : Int)) = true → Q (AV.tup [AV.int IntKind.i64 (0 : Int), AV.int IntKind.i64 (0 : Int), AV.int IntKind.i64 (3 : Int)]) []) ∧ (decide ((↑(List.map TFeFuse.av f.Fuses).length : Int) > (10 : Int)) = false → (decide ((↑(List.map TFeNode.av f.Nodes).length : Int) > (40 : Int)) = true → Q (AV.tup [AV.int IntKind.i64 (0 : Int), AV.int IntKind.i64 (0 : Int), AV.int IntKind.i64 (3 : Int)]) []) ∧ (decide ((↑(List.map TFeNode.av f.Nodes).length : Int) > (40 : Int)) = false → (((↑(List.map TFeNode.av f.Nodes).length : Int) == (0 : Int)) = true → Q (AV.tup [AV.int IntKind.i64 (0 : Int), AV.int IntKind.i64 (0 : Int), AV.int IntKind.i64 (4 : Int)]) []) ∧ (((↑(List.map TFeNode.av f.Nodes).length : Int) == (0 : Int)) = false → ∃ b8, S (54 : Nat) [f.Volts.av, AV.int IntKind.i64 (1 : Int), AV.int IntKind.i64 (1000000 : Int)] [] (AV.bool b8) [] ∧ ((!b8) = true → Q (AV.tup [AV.int IntKind.i64 (0 : Int), AV.int IntKind.i64 (0 : Int), AV.int IntKind.i64 (7 : Int)]) []) ∧ ((!b8) = false → ∃ b12, S (54 : Nat) [f.Source.av, AV.int IntKind.i64 (1 : Int), AV.int IntKind.i64 (1000000000 : Int)] [] (AV.bool b12) [] ∧ ((!b12) = true → Q (AV.tup [AV.int IntKind.i64 (0 : Int), AV.int IntKind.i64 (0 : Int), AV.int IntKind.i64 (7 : Int)]) []) ∧ ((!b12) = false → ∃ b16, S (55 : Nat) [AV.int IntKind.i64 f.Drop, AV.int IntKind.i64 (0 : Int), AV.int IntKind.i64 (1000000 : Int)] [] (AV.bool b16) [] ∧ ((!b16) = true → Q (AV.tup [AV.int IntKind.i64 (0 : Int), AV.int IntKind.i64 (0 : Int), AV.int IntKind.i64 (7 : Int)]) []) ∧ ((!b16) = false → ∃ b20, S (55 : Nat) [AV.int IntKind.i64 f.Limit, AV.int IntKind.i64 (1 : Int), AV.int IntKind.i64 (100000000 : Int)] [] (AV.bool b20) [] ∧ ((!b20) = true → Q (AV.tup [AV.int IntKind.i64 (0 : Int), AV.int IntKind.i64 (0 : Int), AV.int IntKind.i64 (7 : Int)]) []) ∧ ((!b20) = false → ∃ (I24 : Nat → List AV → Prop), (∃ m26, I24 m26 [AV.int IntKind.i64 (0 : Int)]) ∧ ∀ (m26 : Nat) (n27 : Int), I24 m26 [AV.int IntKind.i64 n27] → (decide (n27 < (↑(List.map TFeCable.av f.Cables).length : Int)) = true → ∃ n31, S (56 : Nat) [f.av, AV.int IntKind.i64 n27] [] (AV.int IntKind.i64 n31) [] ∧ ((n31 != (0 : Int)) = true → Q (AV.tup [AV.int IntKind.i64 (1 : Int), AV.int IntKind.i64 n27, AV.int IntKind.i64 n31]) []) ∧ ((n31 != (0 : Int)) = false → f.cs = f.cs ∧ ∃ k36, k36 < m26 ∧ I24 k36 [AV.int IntKind.i64 (IntKind.i64.wrap (n27 + (1 : Int)))])) ∧ (decide (n27 < (↑(List.map TFeCable.av f.Cables).length : Int)) = false → ∃ (I31 : Nat → List AV → Prop), (∃ m33, I31 m33 [AV.int IntKind.i64 (0 : Int)]) ∧ ∀ (m33 : Nat) (n34 : Int), I31 m33 [AV.int IntKind.i64 n34] → (decide (n34 < (↑(List.map TFeFuse.av f.Fuses).length : Int)) = true → ∃ n38, S (57 : Nat) [f.av, AV.int IntKind.i64 n34] [] (AV.int IntKind.i64 n38) [] ∧ ((n38 != (0 : Int)) = true → Q (AV.tup [AV.int IntKind.i64 (2 : Int), AV.int IntKind.i64 n34, AV.int IntKind.i64 n38]) []) ∧ ((n38 != (0 : Int)) = false → f.cs = f.cs ∧ ∃ k43, k43 < m33 ∧ I31 k43 [AV.int IntKind.i64 (IntKind.i64.wrap (n34 + (1 : Int)))])) ∧ (decide (n34 < (↑(List.map TFeFuse.av f.Fuses).length : Int)) = false → ∃ (I38 : Nat → List AV → Prop), (∃ m40, I38 m40 [AV.int IntKind.i64 (0 : Int)]) ∧ ∀ (m40 : Nat) (n41 : Int), I38 m40 [AV.int IntKind.i64 n41] → (decide (n41 < (↑(List.map TFeNode.av f.Nodes).length : Int)) = true → ∃ n45, S (58 : Nat) [f.av, AV.int IntKind.i64 n41] [] (AV.int IntKind.i64 n45) [] ∧ ((n45 != (0 : Int)) = true → Q (AV.tup [AV.int IntKind.i64 (3 : Int), AV.int IntKind.i64 n41, AV.int IntKind.i64 n45]) []) ∧ ((n45 != (0 : Int)) = false → f.cs = f.cs ∧ ∃ k50, k50 < m40 ∧ I38 k50 [AV.int IntKind.i64 (IntKind.i64.wrap (n41 + (1 : Int)))])) ∧ (decide (n41 < (↑(List.map TFeNode.av f.Nodes).length : Int)) = false → Q (AV.tup TFeFault.zero.cs) [])))))))))))
theorem r16 (f : TFeFeeder) (S : SpecF) (Fr : FuncId → List AV → Nat → List AV → Prop) (Sq : FuncId → List AV → List (List AV) → List (List AV) → Prop) (Q : AV → List (List AV) → Prop) : awpF Try.prog (mkS Try.prog S Fr Sq ⟨[], [], [], [], []⟩ 0) 0 ⟨[0, 1, 2, 3, 4, 5, 6, 7, 8, 9, 10, 26, 30, 52, 57, 64, 71, 78, 85, 92], [⟨8, [(5, .int .i64 0)], [], [], [], []⟩, ⟨14, [(7, .int .i64 0)], [], [], [], []⟩, ⟨20, [(9, .int .i64 0)], [], [], [], []⟩], [], []⟩ Try.f16 [f.av] [] Q = R16 f S Fr Sq Q := by kernel_rfl
theorem s16 (f : TFeFeeder) (v : AV) (O : List (List AV)) (h : R16 f (SpecOf Try.prog) (FreshOf Try.prog) (SeqOf Try.prog) (fun r O' => r = v ∧ O' = O)) : SpecOf Try.prog 16 [f.av] [] v O :=
  spec_by (boxes := []) mixed (by exact trivial) Try.func16 Try.call16 rfl rfl rfl (Nat.le_of_ble_eq_true rfl) (r16 f (SpecOf Try.prog) (FreshOf Try.prog) (SeqOf Try.prog) _) h
theorem c16 (f : TFeFeeder) (hn : NOK f) : Sp 16 [f.av] [] (tup3 (checkF f)) [] := s16 f _ _ (by
  unfold R16
  simp only [List.length_map]
  refine ⟨fun h1 => ⟨?_, trivial⟩, fun h1 => ⟨fun h2 => ⟨?_, trivial⟩, fun h2 => ⟨fun h3 => ⟨?_, trivial⟩, fun h3 => ?_⟩⟩⟩
  · rw [checkF, if_pos (.inl (by simp at h1; omega))]; rfl
  · rw [checkF, if_pos (.inr (.inl (by simp at h2; omega)))]; rfl
  · rw [checkF, if_pos (.inr (.inr (by simp at h3; omega)))]; rfl
  have h1 : f.Cables.length ≤ 10 := by simp at h1; omega
  have h2 : f.Fuses.length ≤ 10 := by simp at h2; omega
  have h3 : f.Nodes.length ≤ 40 := by simp at h3; omega
  have hl : ¬ (10 < f.Cables.length ∨ 10 < f.Fuses.length ∨ 40 < f.Nodes.length) := by omega
  refine ⟨fun h4 => ⟨?_, trivial⟩, fun h4 => ?_⟩
  · rw [checkF, if_neg hl, if_pos (by simp at h4; simp [h4])]; rfl
  have h4 : ¬ f.Nodes.length = 0 := by simp at h4; simp [h4]
  refine ⟨_, c54 _ _ _, fun h5 => ⟨?_, trivial⟩, fun h5 => ⟨_, c54 _ _ _, fun h6 => ⟨?_, trivial⟩, fun h6 => ⟨_, c55 _ _ _, fun h7 => ⟨?_, trivial⟩, fun h7 => ⟨_, c55 _ _ _, fun h8 => ⟨?_, trivial⟩, fun h8 => ?_⟩⟩⟩⟩
  · rw [checkF, if_neg hl, if_neg h4, if_pos (by simp_all)]; rfl
  · rw [checkF, if_neg hl, if_neg h4, if_pos (by simp_all)]; rfl
  · rw [checkF, if_neg hl, if_neg h4, if_pos (by simp_all)]; rfl
  · rw [checkF, if_neg hl, if_neg h4, if_pos (by simp_all)]; rfl
  have h9 : ¬ (!(wiB f.Volts 1 1000000 && wiB f.Source 1 1000000000 && inB f.Drop 0 1000000 && inB f.Limit 1 100000000)) = true := by simp_all
  obtain ⟨n1, n2, n3⟩ := hn
  let eA := errAt TFeCable.Name cableS f.Cables
  let eB := errAt TFeFuse.Name curveS f.Fuses
  let eC := errAt TFeNode.Name (nodeS f.Cables.length f.Fuses.length) f.Nodes
  have hc : checkF f = if (restE eA f.Cables.length 0).2 ≠ 0 then (1, (restE eA f.Cables.length 0).1, (restE eA f.Cables.length 0).2) else if (restE eB f.Fuses.length 0).2 ≠ 0 then (2, (restE eB f.Fuses.length 0).1, (restE eB f.Fuses.length 0).2)
      else if (restE eC f.Nodes.length 0).2 ≠ 0 then (3, (restE eC f.Nodes.length 0).1, (restE eC f.Nodes.length 0).2) else (0, 0, 0) := by rw [checkF, if_neg hl, if_neg h4, if_neg h9]; rfl
  rw [hc]
  refine ⟨fun m vs => ∃ k : Nat, k ≤ f.Cables.length ∧ m = f.Cables.length - k ∧ vs = [.int .i64 k] ∧ restE eA f.Cables.length k = restE eA f.Cables.length 0, ⟨_, 0, by omega, rfl, rfl, rfl⟩, ?_⟩
  rintro m n ⟨k, hk, rfl, hv, ha⟩
  cases hv
  refine ⟨fun g => ?_, fun g => ?_⟩
  · have g : k < f.Cables.length := by simpa using g
    have hat := restE_at (e := eA) g
    refine ⟨_, c56 f k (by omega) g n1, fun q => ⟨?_, trivial⟩, fun q => ?_⟩
    · have q : eA k ≠ 0 := by simpa using q
      rw [← ha, hat, if_pos q, if_pos q]; rfl
    · have q : ¬ eA k ≠ 0 := by simpa using q
      repeat refine And.intro trivial ?_
      exact ⟨_, (by omega : f.Cables.length - (k + 1) < f.Cables.length - k), k + 1, by omega, rfl, by rw [wrapN (by omega)], by rw [← ha, hat, if_neg q]⟩
  have g : k = f.Cables.length := by simp at g; omega
  subst g
  rw [restE_end] at ha
  rw [← ha, if_neg (by simp)]
  refine ⟨fun m vs => ∃ k : Nat, k ≤ f.Fuses.length ∧ m = f.Fuses.length - k ∧ vs = [.int .i64 k] ∧ restE eB f.Fuses.length k = restE eB f.Fuses.length 0, ⟨_, 0, by omega, rfl, rfl, rfl⟩, ?_⟩
  rintro m n ⟨k, hk, rfl, hv, hb⟩
  cases hv
  refine ⟨fun g => ?_, fun g => ?_⟩
  · have g : k < f.Fuses.length := by simpa using g
    have hat := restE_at (e := eB) g
    refine ⟨_, c57 f k (by omega) g n2, fun q => ⟨?_, trivial⟩, fun q => ?_⟩
    · have q : eB k ≠ 0 := by simpa using q
      rw [← hb, hat, if_pos q, if_pos q]; rfl
    · have q : ¬ eB k ≠ 0 := by simpa using q
      repeat refine And.intro trivial ?_
      exact ⟨_, (by omega : f.Fuses.length - (k + 1) < f.Fuses.length - k), k + 1, by omega, rfl, by rw [wrapN (by omega)], by rw [← hb, hat, if_neg q]⟩
  have g : k = f.Fuses.length := by simp at g; omega
  subst g
  rw [restE_end] at hb
  rw [← hb, if_neg (by simp)]
  refine ⟨fun m vs => ∃ k : Nat, k ≤ f.Nodes.length ∧ m = f.Nodes.length - k ∧ vs = [.int .i64 k] ∧ restE eC f.Nodes.length k = restE eC f.Nodes.length 0, ⟨_, 0, by omega, rfl, rfl, rfl⟩, ?_⟩
  rintro m n ⟨k, hk, rfl, hv, hd⟩
  cases hv
  refine ⟨fun g => ?_, fun g => ?_⟩
  · have g : k < f.Nodes.length := by simpa using g
    have hat := restE_at (e := eC) g
    refine ⟨_, c58 f k (by omega) (by omega) (by omega) g n3, fun q => ⟨?_, trivial⟩, fun q => ?_⟩
    · have q : eC k ≠ 0 := by simpa using q
      rw [← hd, hat, if_pos q, if_pos q]; rfl
    · have q : ¬ eC k ≠ 0 := by simpa using q
      repeat refine And.intro trivial ?_
      exact ⟨_, (by omega : f.Nodes.length - (k + 1) < f.Nodes.length - k), k + 1, by omega, rfl, by rw [wrapN (by omega)], by rw [← hd, hat, if_neg q]⟩
  have g : k = f.Nodes.length := by simp at g; omega
  subst g
  rw [restE_end] at hd
  rw [← hd, if_neg (by simp)]
  exact ⟨rfl, trivial⟩)
end Go.Proofs.Ytbdbnpnichkcjaa

/- Contracts: holds, plans, states. -/
import Derived.Test.YtdaanpgdjjodcaaA
namespace Go.Proofs.Ytdaanpgdjjodcaa
open Go.RowKit
def R48 (n : Int) (S : SpecF) (Fr : FuncId → List AV → Nat → List AV → Prop) (Q : AV → List (List AV) → Prop) : Prop :=
  ∃ b0, S (38 : Nat) [AV.int IntKind.i64 n, AV.int IntKind.i64 (0 : Int), AV.int IntKind.i64 (1000000000 : Int)] [] (AV.bool b0) [] ∧ Q (AV.bool !b0) []
theorem r48 (n : Int) (S : SpecF) (Fr : FuncId → List AV → Nat → List AV → Prop) (Q : AV → List (List AV) → Prop) : awpF Try.prog ⟨S, Fr, ⟨[], [], []⟩⟩ 0 ⟨[0, 2], [], [], []⟩ Try.f48 [.int .i64 n] [] Q = R48 n S Fr Q := by kernel_rfl
theorem s48 (n : Int) (v : AV) (O : List (List AV)) (h : R48 n (SpecOf Try.prog) (FreshOf Try.prog) (fun r O' => r = v ∧ O' = O)) : SpecOf Try.prog 48 [.int .i64 n] [] v O :=
  spec_by (boxes := []) mixed Try.func48 Try.call48 rfl rfl rfl (Nat.le_of_ble_eq_true rfl) (r48 n (SpecOf Try.prog) (FreshOf Try.prog) _) h
theorem c48 (n : Int) : Sp 48 [.int .i64 n] [] (.bool (wildB n)) [] := s48 n _ _ ⟨_, c38 _ _ _, rfl, rfl⟩
def R46 (m : TNdHold) (c : TNdSet) (S : SpecF) (Fr : FuncId → List AV → Nat → List AV → Prop) (Q : AV → List (List AV) → Prop) : Prop :=
  ∃ b0, S (38 : Nat) [AV.int IntKind.i64 m.Level, AV.int IntKind.i64 (0 : Int), AV.int IntKind.i64 (1000 : Int)] [] (AV.bool b0) [] ∧ ((!b0) = true → Q (AV.int IntKind.i64 (7 : Int)) []) ∧ ((!b0) = false → ∃ b4, S (38 : Nat) [AV.int IntKind.i64 m.From, AV.int IntKind.i64 (0 : Int), AV.int IntKind.i64 (4000000000 : Int)] [] (AV.bool b4) [] ∧ ((!b4) = true → Q (AV.int IntKind.i64 (7 : Int)) []) ∧ ((!b4) = false → ∃ b8, S (38 : Nat) [AV.int IntKind.i64 m.Until, AV.int IntKind.i64 (0 : Int), AV.int IntKind.i64 (4000000000 : Int)] [] (AV.bool b8) [] ∧ ((!b8) = true → Q (AV.int IntKind.i64 (7 : Int)) []) ∧ ((!b8) = false → (decide (m.Until ≤ m.From) = true → Q (AV.int IntKind.i64 (2 : Int)) []) ∧ (decide (m.Until ≤ m.From) = false → (decide (m.Until > IntKind.i64.wrap (m.From + c.Hold)) = true → Q (AV.int IntKind.i64 (2 : Int)) []) ∧ (decide (m.Until > IntKind.i64.wrap (m.From + c.Hold)) = false → Q (AV.int IntKind.i64 (0 : Int)) [])))))
theorem r46 (m : TNdHold) (c : TNdSet) (S : SpecF) (Fr : FuncId → List AV → Nat → List AV → Prop) (Q : AV → List (List AV) → Prop) : awpF Try.prog ⟨S, Fr, ⟨[], [], []⟩⟩ 0 ⟨[0, 1, 2, 3, 4, 5, 22], [], [], []⟩ Try.f46 [m.av, c.av] [] Q = R46 m c S Fr Q := by kernel_rfl
theorem s46 (m : TNdHold) (c : TNdSet) (v : AV) (O : List (List AV)) (h : R46 m c (SpecOf Try.prog) (FreshOf Try.prog) (fun r O' => r = v ∧ O' = O)) : SpecOf Try.prog 46 [m.av, c.av] [] v O :=
  spec_by (boxes := []) mixed Try.func46 Try.call46 rfl rfl rfl (Nat.le_of_ble_eq_true rfl) (r46 m c (SpecOf Try.prog) (FreshOf Try.prog) _) h
theorem c46 (h : TNdHold) (c : TNdSet) : Sp 46 [h.av, c.av] [] (.int .i64 (holdS c h)) [] := s46 h c _ _ (by
  refine ⟨_, c38 _ _ _, fun h1 => ?_, fun h1 => ⟨_, c38 _ _ _, fun h2 => ?_, fun h2 => ⟨_, c38 _ _ _, fun h3 => ?_, fun h3 => ⟨fun h4 => ?_, fun h4 => ⟨fun h5 => ?_, fun h5 => ?_⟩⟩⟩⟩⟩ <;>
    refine ⟨?_, rfl⟩ <;> simp_all [holdS])
def R49 (m : TNdPlan) (c : TNdSet) (S : SpecF) (Fr : FuncId → List AV → Nat → List AV → Prop) (Q : AV → List (List AV) → Prop) : Prop :=
  ∃ b0, S (38 : Nat) [AV.int IntKind.i64 m.First, AV.int IntKind.i64 (0 : Int), AV.int IntKind.i64 (40000 : Int)] [] (AV.bool b0) [] ∧ ((!b0) = true → Q (AV.int IntKind.i64 (7 : Int)) []) ∧ ((!b0) = false → (decide ((↑(List.map TSnNight.av m.Nights).length : Int) > (40 : Int)) = true → Q (AV.int IntKind.i64 (3 : Int)) []) ∧ (decide ((↑(List.map TSnNight.av m.Nights).length : Int) > (40 : Int)) = false → ∃ (I6 : Nat → List AV → Prop), (∃ m8, I6 m8 [AV.int IntKind.i64 (0 : Int)]) ∧ ∀ (m8 : Nat) (n9 : Int), I6 m8 [AV.int IntKind.i64 n9] → (decide (n9 < (↑(List.map TSnNight.av m.Nights).length : Int)) = true → ∃ n13 n14, ((0 : Int) ≤ n9 ∧ (2 : Nat) = (2 : Nat) ∧ (List.map TSnNight.av m.Nights)[n9.toNat]? = some (AV.agg [AV.int IntKind.i64 n13, AV.int IntKind.i64 n14])) ∧ ∃ b16, S (50 : Nat) [AV.agg [AV.int IntKind.i64 n13, AV.int IntKind.i64 n14]] [] (AV.bool b16) [] ∧ ((!b16) = true → Q (AV.int IntKind.i64 (2 : Int)) []) ∧ ((!b16) = false → ∃ b20, S (51 : Nat) [AV.agg [AV.int IntKind.i64 n13, AV.int IntKind.i64 n14], c.Core.av] [] (AV.bool b20) [] ∧ ((!b20) = true → Q (AV.int IntKind.i64 (181 : Int)) []) ∧ ((!b20) = false → m.cs = m.cs ∧ c.cs = c.cs ∧ ∃ k26, k26 < m8 ∧ I6 k26 [AV.int IntKind.i64 (IntKind.i64.wrap (n9 + (1 : Int)))]))) ∧ (decide (n9 < (↑(List.map TSnNight.av m.Nights).length : Int)) = false → Q (AV.int IntKind.i64 (0 : Int)) [])))
theorem r49 (m : TNdPlan) (c : TNdSet) (S : SpecF) (Fr : FuncId → List AV → Nat → List AV → Prop) (Q : AV → List (List AV) → Prop) : awpF Try.prog ⟨S, Fr, ⟨[], [], []⟩⟩ 0 ⟨[0, 1, 2, 3, 4, 6, 7, 12, 18, 19, 20, 21, 24, 28], [⟨6, [(20, .int .i64 0)], [], []⟩], [], []⟩ Try.f49 [m.av, c.av] [] Q = R49 m c S Fr Q := by kernel_rfl
theorem s49 (m : TNdPlan) (c : TNdSet) (v : AV) (O : List (List AV)) (h : R49 m c (SpecOf Try.prog) (FreshOf Try.prog) (fun r O' => r = v ∧ O' = O)) : SpecOf Try.prog 49 [m.av, c.av] [] v O :=
  spec_by (boxes := []) mixed Try.func49 Try.call49 rfl rfl rfl (Nat.le_of_ble_eq_true rfl) (r49 m c (SpecOf Try.prog) (FreshOf Try.prog) _) h
theorem nightsS_skip {c : TNdSet} {l : List TSnNight} {k : Nat} {x : TSnNight} (h : l[k]? = some x) (h1 : goodB x = true) (h2 : covB x c.Core = true) : nightsS c (l.drop (k + 1)) = nightsS c (l.drop k) := by
  obtain ⟨hk, rfl⟩ := List.getElem?_eq_some_iff.1 h
  rw [List.drop_eq_getElem_cons hk]
  simp [nightsS, h1, h2]
theorem nightsS_at {c : TNdSet} {l : List TSnNight} {k : Nat} {x : TSnNight} (h : l[k]? = some x) : nightsS c (l.drop k) = if !goodB x then 2 else if !covB x c.Core then 181 else nightsS c (l.drop (k + 1)) := by
  obtain ⟨hk, rfl⟩ := List.getElem?_eq_some_iff.1 h
  rw [List.drop_eq_getElem_cons hk]
  simp [nightsS]
theorem c49 (p : TNdPlan) (c : TNdSet) : Sp 49 [p.av, c.av] [] (.int .i64 (planS c p)) [] := s49 p c _ _ (by
  refine ⟨_, c38 _ _ _, fun h1 => ⟨by simp_all [planS], rfl⟩, fun h1 => ⟨fun h2 => ⟨?_, rfl⟩, fun h2 => ?_⟩⟩
  · simp only [List.length_map, decide_eq_true_eq] at h2
    have : 40 < p.Nights.length := by omega
    simp_all [planS]
  have h2 : p.Nights.length ≤ 40 := by simp only [List.length_map, decide_eq_false_iff_not] at h2; omega
  have h1' : inB p.First 0 40000 = true := by simpa using h1
  have hp : planS c p = nightsS c p.Nights := by rw [planS, h1', if_neg (by simp), if_neg (by omega)]
  refine ⟨fun m vs => ∃ n : Nat, vs = [.int .i64 n] ∧ n ≤ p.Nights.length ∧ m = p.Nights.length - n ∧ nightsS c (p.Nights.drop n) = planS c p, ⟨_, 0, rfl, by omega, rfl, by rw [hp]; rfl⟩, ?_⟩
  rintro m n ⟨k, hk, hle, rfl, hn⟩
  cases hk
  refine ⟨fun h3 => ?_, fun h3 => ⟨?_, rfl⟩⟩
  · have h3 : k < p.Nights.length := by simpa using h3
    obtain ⟨x, hx, hx'⟩ := map_get (f := TSnNight.av) (l := p.Nights) (n := (k : Int)) (by omega) (by omega)
    simp only [Int.toNat_natCast] at hx
    have hat := nightsS_at (c := c) hx
    refine ⟨x.On, x.Off, ⟨by omega, rfl, hx'⟩, _, c50 x, fun h4 => ⟨?_, rfl⟩, fun h4 => ⟨_, c51 x c.Core, fun h5 => ⟨?_, rfl⟩, fun h5 => ⟨rfl, rfl, _, ?_, k + 1, ?_, by omega, rfl, ?_⟩⟩⟩
    · rw [← hn, hat, h4]; rfl
    · rw [← hn, hat]; simp_all
    · omega
    · rw [wrap1 (m := p.Nights.length) (by omega) (by omega) (by omega)]; rfl
    · rw [← hn, hat]; simp_all
  · have : k = p.Nights.length := by simp at h3; omega
    rw [← hn, this, List.drop_length]; rfl)
def R56 (c : TNdSet) (h1 : TNdHold) (S : SpecF) (Fr : FuncId → List AV → Nat → List AV → Prop) (Q : AV → List (List AV) → Prop) : Prop :=
  ∃ b0, S (52 : Nat) [AV.int IntKind.i64 h1.Level, AV.int IntKind.i64 (0 : Int), AV.int IntKind.i64 (1000 : Int)] [] (AV.bool b0) [] ∧ ((!b0) = true → Q (AV.int IntKind.i64 (7 : Int)) []) ∧ ((!b0) = false → ∃ b4, S (52 : Nat) [AV.int IntKind.i64 h1.From, AV.int IntKind.i64 (0 : Int), AV.int IntKind.i64 (4000000000 : Int)] [] (AV.bool b4) [] ∧ ((!b4) = true → Q (AV.int IntKind.i64 (7 : Int)) []) ∧ ((!b4) = false → ∃ b8, S (52 : Nat) [AV.int IntKind.i64 h1.Until, AV.int IntKind.i64 (0 : Int), AV.int IntKind.i64 (4000000000 : Int)] [] (AV.bool b8) [] ∧ ((!b8) = true → Q (AV.int IntKind.i64 (7 : Int)) []) ∧ ((!b8) = false → ∃ b12, S (52 : Nat) [AV.int IntKind.i64 h1.Until, AV.int IntKind.i64 (IntKind.i64.wrap (h1.From + (1 : Int))), AV.int IntKind.i64 (IntKind.i64.wrap (h1.From + c.Hold))] [] (AV.bool b12) [] ∧ ((!b12) = true → Q (AV.int IntKind.i64 (2 : Int)) []) ∧ ((!b12) = false → Q (AV.int IntKind.i64 (0 : Int)) []))))
theorem r56 (c : TNdSet) (h1 : TNdHold) (S : SpecF) (Fr : FuncId → List AV → Nat → List AV → Prop) (Q : AV → List (List AV) → Prop) : awpF Try.prog ⟨S, Fr, ⟨[], [], []⟩⟩ 0 ⟨[0, 1, 2, 3, 4, 20, 32], [], [], []⟩ Try.f56 [c.av, h1.av] [] Q = R56 c h1 S Fr Q := by kernel_rfl
theorem s56 (c : TNdSet) (h1 : TNdHold) (v : AV) (O : List (List AV)) (h : R56 c h1 (SpecOf Try.prog) (FreshOf Try.prog) (fun r O' => r = v ∧ O' = O)) : SpecOf Try.prog 56 [c.av, h1.av] [] v O :=
  spec_by (boxes := []) mixed Try.func56 Try.call56 rfl rfl rfl (Nat.le_of_ble_eq_true rfl) (r56 c h1 (SpecOf Try.prog) (FreshOf Try.prog) _) h
theorem c56 (c : TNdSet) (h : TNdHold) (hc : checkS c = 0) : Sp 56 [c.av, h.av] [] (.int .i64 (holdS c h)) [] := s56 c h _ _ (by
  refine ⟨_, c52 _ _ _, fun h1 => ?_, fun h1 => ⟨_, c52 _ _ _, fun h2 => ?_, fun h2 => ⟨_, c52 _ _ _, fun h3 => ?_, fun h3 => ⟨_, c52 _ _ _, fun h4 => ?_, fun h4 => ?_⟩⟩⟩⟩
  · refine ⟨?_, rfl⟩; simp_all [holdS]
  · refine ⟨?_, rfl⟩; simp_all [holdS]
  · refine ⟨?_, rfl⟩; simp_all [holdS]
  · have h2 : inB h.From 0 4000000000 = true := by simpa using h2
    have := inB_iff.1 h2
    rw [IntWalk.i64_in (h.From + 1) (by omega)] at h4
    refine ⟨?_, rfl⟩
    have h4 : ¬ (h.From + 1 ≤ h.Until ∧ h.Until ≤ IntKind.i64.wrap (h.From + c.Hold)) := by rw [← inB_iff]; simpa using h4
    simp_all [holdS]
    omega
  · have h2 : inB h.From 0 4000000000 = true := by simpa using h2
    have := inB_iff.1 h2
    rw [IntWalk.i64_in (h.From + 1) (by omega)] at h4
    refine ⟨?_, rfl⟩
    have h4 := inB_iff.1 (by simpa using h4)
    simp_all [holdS]
    omega)
def R55 (c : TNdSet) (p : TNdPlan) (S : SpecF) (Fr : FuncId → List AV → Nat → List AV → Prop) (Q : AV → List (List AV) → Prop) : Prop :=
  ∃ b0, S (52 : Nat) [AV.int IntKind.i64 p.First, AV.int IntKind.i64 (0 : Int), AV.int IntKind.i64 (40000 : Int)] [] (AV.bool b0) [] ∧ ((!b0) = true → Q (AV.int IntKind.i64 (7 : Int)) []) ∧ ((!b0) = false → (decide ((↑(List.map TSnNight.av p.Nights).length : Int) > (40 : Int)) = true → Q (AV.int IntKind.i64 (3 : Int)) []) ∧ (decide ((↑(List.map TSnNight.av p.Nights).length : Int) > (40 : Int)) = false → ∃ (I6 : Nat → List AV → Prop), (∃ m8, I6 m8 TSnNight.zero.cs) ∧ ∀ (m8 : Nat) (n9 n10 : Int), I6 m8 [AV.int IntKind.i64 n9, AV.int IntKind.i64 n10] → (decide (n10 < (↑(List.map TSnNight.av p.Nights).length : Int)) = true → ((n9 == (0 : Int)) = true → ∃ n16 n17, ((0 : Int) ≤ n10 ∧ (2 : Nat) = (2 : Nat) ∧ (List.map TSnNight.av p.Nights)[n10.toNat]? = some (AV.agg [AV.int IntKind.i64 n16, AV.int IntKind.i64 n17])) ∧ ∃ b19, S (53 : Nat) [AV.agg [AV.int IntKind.i64 n16, AV.int IntKind.i64 n17]] [] (AV.bool b19) [] ∧ ((!b19) = true → c.cs = c.cs ∧ p.cs = p.cs ∧ ∃ k25, k25 < m8 ∧ I6 k25 [AV.int IntKind.i64 (2 : Int), AV.int IntKind.i64 (IntKind.i64.wrap (n10 + (1 : Int)))]) ∧ ((!b19) = false → ∃ n23 n24, ((0 : Int) ≤ n10 ∧ (2 : Nat) = (2 : Nat) ∧ (List.map TSnNight.av p.Nights)[n10.toNat]? = some (AV.agg [AV.int IntKind.i64 n23, AV.int IntKind.i64 n24])) ∧ ∃ b26, S (54 : Nat) [AV.agg [AV.int IntKind.i64 n23, AV.int IntKind.i64 n24], c.Core.av] [] (AV.bool b26) [] ∧ ((!b26) = true → c.cs = c.cs ∧ p.cs = p.cs ∧ ∃ k32, k32 < m8 ∧ I6 k32 [AV.int IntKind.i64 (181 : Int), AV.int IntKind.i64 (IntKind.i64.wrap (n10 + (1 : Int)))]) ∧ ((!b26) = false → c.cs = c.cs ∧ p.cs = p.cs ∧ ∃ k32, k32 < m8 ∧ I6 k32 [AV.int IntKind.i64 n9, AV.int IntKind.i64 (IntKind.i64.wrap (n10 + (1 : Int)))]))) ∧ ((n9 == (0 : Int)) = false → Q (AV.int IntKind.i64 n9) [])) ∧ (decide (n10 < (↑(List.map TSnNight.av p.Nights).length : Int)) = false → Q (AV.int IntKind.i64 n9) [])))
theorem r55 (c : TNdSet) (p : TNdPlan) (S : SpecF) (Fr : FuncId → List AV → Nat → List AV → Prop) (Q : AV → List (List AV) → Prop) : awpF Try.prog ⟨S, Fr, ⟨[], [], []⟩⟩ 0 ⟨[0, 1, 2, 3, 4, 5, 6, 10, 14, 23, 32, 41], [⟨7, [(5, .int .i64 0), (6, .int .i64 0)], [], []⟩], [], []⟩ Try.f55 [c.av, p.av] [] Q = R55 c p S Fr Q := by kernel_rfl
theorem s55 (c : TNdSet) (p : TNdPlan) (v : AV) (O : List (List AV)) (h : R55 c p (SpecOf Try.prog) (FreshOf Try.prog) (fun r O' => r = v ∧ O' = O)) : SpecOf Try.prog 55 [c.av, p.av] [] v O :=
  spec_by (boxes := []) mixed Try.func55 Try.call55 rfl rfl rfl (Nat.le_of_ble_eq_true rfl) (r55 c p (SpecOf Try.prog) (FreshOf Try.prog) _) h
theorem c55 (c : TNdSet) (p : TNdPlan) : Sp 55 [c.av, p.av] [] (.int .i64 (planS c p)) [] := s55 c p _ _ (by
  refine ⟨_, c52 _ _ _, fun h1 => ⟨by simp_all [planS], rfl⟩, fun h1 => ⟨fun h2 => ⟨?_, rfl⟩, fun h2 => ?_⟩⟩
  · simp only [List.length_map, decide_eq_true_eq] at h2
    have : 40 < p.Nights.length := by omega
    simp_all [planS]
  have h2 : p.Nights.length ≤ 40 := by simp only [List.length_map, decide_eq_false_iff_not] at h2; omega
  have h1' : inB p.First 0 40000 = true := by simpa using h1
  have hp : planS c p = nightsS c p.Nights := by rw [planS, h1', if_neg (by simp), if_neg (by omega)]
  refine ⟨fun m vs => ∃ (n : Nat) (e : Int), vs = [.int .i64 e, .int .i64 n] ∧ n ≤ p.Nights.length ∧ m = p.Nights.length - n ∧ (if e = 0 then nightsS c (p.Nights.drop n) = planS c p else e = planS c p), ⟨_, 0, 0, rfl, by omega, rfl, by rw [hp]; rfl⟩, ?_⟩
  rintro m e n ⟨k, e', hk, hle, rfl, hn⟩
  cases hk
  refine ⟨fun h3 => ⟨fun h0 => ?_, fun h0 => ⟨?_, rfl⟩⟩, fun h3 => ⟨?_, rfl⟩⟩
  · have h3 : k < p.Nights.length := by simpa using h3
    have h0 : e = 0 := by simpa using h0
    subst h0
    simp only [if_true] at hn
    obtain ⟨x, hx, hx'⟩ := map_get (f := TSnNight.av) (l := p.Nights) (n := (k : Int)) (by omega) (by omega)
    simp only [Int.toNat_natCast] at hx
    have hat := nightsS_at (c := c) hx
    have hw : IntKind.i64.wrap ((k : Int) + 1) = ((k + 1 : Nat) : Int) := by rw [wrap1 (m := p.Nights.length) (by omega) (by omega) (by omega)]; rfl
    refine ⟨x.On, x.Off, ⟨by omega, rfl, hx'⟩, _, c53 x, fun h4 => ⟨rfl, rfl, _, ?_, k + 1, 2, by rw [hw], by omega, rfl, ?_⟩, fun h4 => ⟨x.On, x.Off, ⟨by omega, rfl, hx'⟩, _, c54 x c.Core, fun h5 => ⟨rfl, rfl, _, ?_, k + 1, 181, by rw [hw], by omega, rfl, ?_⟩, fun h5 => ⟨rfl, rfl, _, ?_, k + 1, 0, by rw [hw], by omega, rfl, ?_⟩⟩⟩
    · omega
    · rw [if_neg (by decide), ← hn, hat, h4]; rfl
    · omega
    · have h4 : goodB x = true := by simpa using h4
      rw [if_neg (by decide), ← hn, hat, h5, h4]; rfl
    · omega
    · have h4 : goodB x = true := by simpa using h4
      have h5 : covB x c.Core = true := by simpa using h5
      rw [if_pos rfl, ← hn, hat, h5, h4]; rfl
  · have h0 : e ≠ 0 := by simpa using h0
    rw [if_neg h0] at hn; rw [hn]
  · have hk : k = p.Nights.length := by simp at h3; omega
    by_cases h0 : e = 0
    · subst h0
      rw [if_pos rfl, hk, List.drop_length] at hn
      rw [← hn]; rfl
    · rw [if_neg h0] at hn; rw [hn])
def R45 (h0 : TNdHold) (v0 : TNdSet) (S : SpecF) (Fr : FuncId → List AV → Nat → List AV → Prop) (Q : AV → List (List AV) → Prop) : Prop :=
  ((h0.From == (0 : Int) && (h0.Until == (0 : Int) && (h0.Level == (0 : Int) && true))) = true → Q (AV.bool true) [v0.cs]) ∧ ((h0.From == (0 : Int) && (h0.Until == (0 : Int) && (h0.Level == (0 : Int) && true))) = false → ∃ n2, S (46 : Nat) [h0.av, v0.av] [] (AV.int IntKind.i64 n2) [] ∧ Q (AV.bool (n2 == (0 : Int))) [v0.cs])
theorem r45 (h0 : TNdHold) (v0 : TNdSet) (S : SpecF) (Fr : FuncId → List AV → Nat → List AV → Prop) (Q : AV → List (List AV) → Prop) : awpF Try.prog ⟨S, Fr, ⟨[], [], []⟩⟩ 1 ⟨[0, 1, 2, 3], [], [], []⟩ Try.f45 [h0.av, .ref 0 0] [⟨25, false, v0.cs⟩] Q = R45 h0 v0 S Fr Q := by kernel_rfl
theorem s45 (h0 : TNdHold) (v0 : TNdSet) (v : AV) (O : List (List AV)) (h : R45 h0 v0 (SpecOf Try.prog) (FreshOf Try.prog) (fun r O' => r = v ∧ O' = O)) : SpecOf Try.prog 45 [h0.av, .ref 0 0] [v0.cs] v O :=
  spec_by (boxes := [⟨25, false, v0.cs⟩]) mixed Try.func45 Try.call45 rfl rfl rfl (Nat.le_of_ble_eq_true rfl) (r45 h0 v0 (SpecOf Try.prog) (FreshOf Try.prog) _) h
theorem c45 (h : TNdHold) (c : TNdSet) : Sp 45 [h.av, .ref 0 0] [c.cs] (.bool (heldB c h)) [c.cs] := s45 h c _ _ (by
  refine ⟨fun h1 => ⟨?_, rfl⟩, fun h1 => ⟨_, c46 h c, ?_, rfl⟩⟩ <;> simp_all [heldB, hzB])
end Go.Proofs.Ytdaanpgdjjodcaa

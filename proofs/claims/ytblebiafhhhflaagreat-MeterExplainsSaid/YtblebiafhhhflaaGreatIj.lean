/- Contracts: how many dead lamps would explain what was metered. Plain laws: so many dead lamps explain what was metered, no less and no more. -/
import Derived.Test.YtblebiafhhhflaaGreatHo
import Derived.Test.YtblebiafhhhflaaGreatIh
namespace Go.Proofs.YtblebiafhhhflaaGreat
open Go.RowKit
def lessE (all one : TSum) (n : Int) : TEncl := hoursE (addS all one.Encl (IntKind.i64.wrap (0 - n)))
def R47 (n : Int) (v0 : TSum) (v1 : TSum) (S : SpecF) (_Fr : FreshF) (_Sq : SeqF) (Q : AV → List (List AV) → Prop) : Prop :=
 ∃ n0 n1, S 27 [AV.ref 0 0, v1.av, .int .i64 (IntKind.i64.wrap ((0 : Int) - n))] [v0.cs] (.tup []) [[AV.int .i64 n0, .int .i64 n1]] ∧ ∃ n3 n4, S 48 [AV.agg [AV.int .i64 n0, .int .i64 n1]] [] (.agg [AV.int .i64 n3, .int .i64 n4]) [] ∧ Q (.agg [AV.int .i64 n3, .int .i64 n4]) [v0.cs, v1.cs]
theorem r47 (n : Int) (v0 : TSum) (v1 : TSum) (S : SpecF) (Fr : FreshF) (Sq : SeqF) (Q : AV → List (List AV) → Prop) : awpF Tryz.prog (mkS Tryz.prog S Fr Sq ⟨[], [], [], [], []⟩ 0) 2 ⟨[0, 1, 2, 4, 5], [], [], []⟩ Tryz.f47 [.int .i64 n, .ref 0 0, .ref 1 0] [⟨91, false, v0.cs⟩, ⟨91, false, v1.cs⟩] Q = R47 n v0 v1 S Fr Sq Q := by kernel_rfl
theorem s47 (n : Int) (v0 : TSum) (v1 : TSum) (v : AV) (O : List (List AV)) (h : R47 n v0 v1 (SpecOf Tryz.prog) (FreshOf Tryz.prog) (SeqOf Tryz.prog) (fun r O' => r = v ∧ O' = O)) : SpecOf Tryz.prog 47 [.int .i64 n, .ref 0 0, .ref 1 0] [v0.cs, v1.cs] v O :=
 spec_by (boxes := [⟨91, false, v0.cs⟩, ⟨91, false, v1.cs⟩]) mixed (by exact trivial) Tryz.func47 Tryz.call47 rfl rfl rfl (Nat.le_of_ble_eq_true rfl) (r47 n v0 v1 (SpecOf Tryz.prog) (FreshOf Tryz.prog) (SeqOf Tryz.prog) _) h
theorem c47 (n : Int) (all one : TSum) : Sp 47 [.int .i64 n, .ref 0 0, .ref 1 0] [all.cs, one.cs] (lessE all one n).av [all.cs, one.cs] := s47 n all one _ _ ⟨_, _, c27 all one.Encl _, _, _, c48 _, rfl, rfl⟩
def lowS (m : TEncl) (all one : TSum) (k : Nat) : Bool := decide ((lessE all one ((k + 1 : Nat) : Int)).Lo ≤ m.Hi)
def highS (m : TEncl) (all one : TSum) (k : Nat) : Bool := decide ((lessE all one ((k + 1 : Nat) : Int)).Hi < m.Lo)
theorem nat1 {k : Nat} (h : k ≤ 1000000000) : IntKind.i64.wrap ((k : Int) + 1) = ((k + 1 : Nat) : Int) := by rw [i64 (by omega)]; omega
def R50 (n : Int) (m : TEncl) (all : TSum) (one : TSum) (S : SpecF) (_Fr : FreshF) (_Sq : SeqF) (Q : AV → List (List AV) → Prop) : Prop :=
 ∃ n0 n1, S 47 [AV.int .i64 (IntKind.i64.wrap (n + 1)), .ref 0 0, .ref 1 0] [all.cs, one.cs] (.agg [AV.int .i64 n0, .int .i64 n1]) [all.cs, one.cs] ∧ Q (.bool (decide (n0 ≤ m.Hi))) [[AV.fn (47 : FuncId) [] [AV.ref 1 0, .ref 2 0]], all.cs, one.cs, m.cs]
theorem r50 (n : Int) (m : TEncl) (all : TSum) (one : TSum) (S : SpecF) (Fr : FreshF) (Sq : SeqF) (Q : AV → List (List AV) → Prop) : awpF Tryz.prog (mkS Tryz.prog S Fr Sq ⟨[], [], [47], [], []⟩ 0) 4 ⟨[0, 1, 2, 4], [], [], []⟩ Tryz.f50 [.int .i64 n, .ref 0 0, .ref 3 0] [⟨127, false, [.fn 47 [] [.ref 1 0, .ref 2 0]]⟩, ⟨91, false, all.cs⟩, ⟨91, false, one.cs⟩, ⟨23, false, m.cs⟩] Q = R50 n m all one S Fr Sq Q := by kernel_rfl
theorem s50 (n : Int) (m : TEncl) (all : TSum) (one : TSum) (v : AV) (O : List (List AV)) (h : R50 n m all one (SpecOf Tryz.prog) (FreshOf Tryz.prog) (SeqOf Tryz.prog) (fun r O' => r = v ∧ O' = O)) : SpecOf Tryz.prog 50 [.int .i64 n, .ref 0 0, .ref 3 0] [[.fn 47 [] [.ref 1 0, .ref 2 0]], all.cs, one.cs, m.cs] v O :=
 spec_by (boxes := [⟨127, false, [.fn 47 [] [.ref 1 0, .ref 2 0]]⟩, ⟨91, false, all.cs⟩, ⟨91, false, one.cs⟩, ⟨23, false, m.cs⟩]) mixed (by exact trivial) Tryz.func50 Tryz.call50 rfl rfl rfl (Nat.le_of_ble_eq_true rfl) (r50 n m all one (SpecOf Tryz.prog) (FreshOf Tryz.prog) (SeqOf Tryz.prog) _) h
theorem c50 (k : Nat) (hk : k ≤ 1000000000) (m : TEncl) (all one : TSum) : Sp 50 [.int .i64 k, .ref 0 0, .ref 3 0] [[.fn 47 [] [.ref 1 0, .ref 2 0]], all.cs, one.cs, m.cs] (.bool (lowS m all one k)) [[.fn 47 [] [.ref 1 0, .ref 2 0]], all.cs, one.cs, m.cs] := s50 k m all one _ _ (by
 unfold R50
 rw [nat1 hk]
 exact ⟨_, _, c47 _ all one, rfl, rfl⟩)
def R51 (n : Int) (m : TEncl) (all : TSum) (one : TSum) (S : SpecF) (_Fr : FreshF) (_Sq : SeqF) (Q : AV → List (List AV) → Prop) : Prop :=
 ∃ n0 n1, S 47 [AV.int .i64 (IntKind.i64.wrap (n + 1)), .ref 0 0, .ref 1 0] [all.cs, one.cs] (.agg [AV.int .i64 n0, .int .i64 n1]) [all.cs, one.cs] ∧ Q (.bool (decide (n1 < m.Lo))) [[AV.fn (47 : FuncId) [] [AV.ref 1 0, .ref 2 0]], all.cs, one.cs, m.cs]
theorem r51 (n : Int) (m : TEncl) (all : TSum) (one : TSum) (S : SpecF) (Fr : FreshF) (Sq : SeqF) (Q : AV → List (List AV) → Prop) : awpF Tryz.prog (mkS Tryz.prog S Fr Sq ⟨[], [], [47], [], []⟩ 0) 4 ⟨[0, 1, 2, 4], [], [], []⟩ Tryz.f51 [.int .i64 n, .ref 0 0, .ref 3 0] [⟨127, false, [.fn 47 [] [.ref 1 0, .ref 2 0]]⟩, ⟨91, false, all.cs⟩, ⟨91, false, one.cs⟩, ⟨23, false, m.cs⟩] Q = R51 n m all one S Fr Sq Q := by kernel_rfl
theorem s51 (n : Int) (m : TEncl) (all : TSum) (one : TSum) (v : AV) (O : List (List AV)) (h : R51 n m all one (SpecOf Tryz.prog) (FreshOf Tryz.prog) (SeqOf Tryz.prog) (fun r O' => r = v ∧ O' = O)) : SpecOf Tryz.prog 51 [.int .i64 n, .ref 0 0, .ref 3 0] [[.fn 47 [] [.ref 1 0, .ref 2 0]], all.cs, one.cs, m.cs] v O :=
 spec_by (boxes := [⟨127, false, [.fn 47 [] [.ref 1 0, .ref 2 0]]⟩, ⟨91, false, all.cs⟩, ⟨91, false, one.cs⟩, ⟨23, false, m.cs⟩]) mixed (by exact trivial) Tryz.func51 Tryz.call51 rfl rfl rfl (Nat.le_of_ble_eq_true rfl) (r51 n m all one (SpecOf Tryz.prog) (FreshOf Tryz.prog) (SeqOf Tryz.prog) _) h
theorem c51 (k : Nat) (hk : k ≤ 1000000000) (m : TEncl) (all one : TSum) : Sp 51 [.int .i64 k, .ref 0 0, .ref 3 0] [[.fn 47 [] [.ref 1 0, .ref 2 0]], all.cs, one.cs, m.cs] (.bool (highS m all one k)) [[.fn 47 [] [.ref 1 0, .ref 2 0]], all.cs, one.cs, m.cs] := s51 k m all one _ _ (by
 unfold R51
 rw [nat1 hk]
 exact ⟨_, _, c47 _ all one, rfl, rfl⟩)
def R49c (n : Int) (m : TEncl) (all : TSum) (one : TSum) (S : SpecF) (_Fr : FreshF) (_Sq : SeqF) (Q : AV → List (List AV) → Prop) : Prop :=
 ∃ (I0 : Nat → List AV → Prop), (∃ m2, I0 m2 [AV.int .i64 0, .int .i64 n]) ∧ ∀ (m2 : Nat) (n3 n4 : Int), I0 m2 [AV.int .i64 n3, .int .i64 n4] → (decide (n3 < n4) = true → ∃ b8, S 50 [AV.int .i64 (IntKind.i64.wrap ((IntKind.u64.wrap (IntKind.i64.wrap (n3 + n4))).fdiv (2 : Int))), .ref 0 0, .ref 3 0] [[AV.fn (47 : FuncId) [] [AV.ref 1 0, .ref 2 0]], all.cs, one.cs, m.cs] (.bool b8) [[AV.fn (47 : FuncId) [] [AV.ref 1 0, .ref 2 0]], all.cs, one.cs, m.cs] ∧ ((!b8) = true → Same [AV.fn (47 : FuncId) [] [AV.ref 1 0, .ref 2 0]] ∧ all.cs = all.cs ∧ one.cs = one.cs ∧ m.cs = m.cs ∧ ∃ k16, k16 < m2 ∧ I0 k16 [AV.int .i64 (IntKind.i64.wrap (IntKind.i64.wrap ((IntKind.u64.wrap (IntKind.i64.wrap (n3 + n4))).fdiv (2 : Int)) + 1)), .int .i64 n4]) ∧ ((!b8) = false → Same [AV.fn (47 : FuncId) [] [AV.ref 1 0, .ref 2 0]] ∧ all.cs = all.cs ∧ one.cs = one.cs ∧ m.cs = m.cs ∧ ∃ k16, k16 < m2 ∧ I0 k16 [AV.int .i64 n3, .int .i64 (IntKind.i64.wrap ((IntKind.u64.wrap (IntKind.i64.wrap (n3 + n4))).fdiv (2 : Int)))])) ∧ (decide (n3 < n4) = false → Q (.int .i64 n3) [[AV.fn (47 : FuncId) [] [AV.ref 1 0, .ref 2 0]], all.cs, one.cs, m.cs])
theorem r49c (n : Int) (m : TEncl) (all : TSum) (one : TSum) (S : SpecF) (Fr : FreshF) (Sq : SeqF) (Q : AV → List (List AV) → Prop) : awpF Tryz.prog (mkS Tryz.prog S Fr Sq ⟨[], [], [50], [], []⟩ 0) 4 ⟨[0, 1, 4, 5, 6, 7, 11, 21], [⟨2, [(5, .int .i64 0), (6, .int .i64 0)], [], [], [], []⟩], [], []⟩ Tryz.f49 [.int .i64 n, .fn 50 [] [.ref 0 0, .ref 3 0]] [⟨127, false, [.fn 47 [] [.ref 1 0, .ref 2 0]]⟩, ⟨91, false, all.cs⟩, ⟨91, false, one.cs⟩, ⟨23, false, m.cs⟩] Q = R49c n m all one S Fr Sq Q := by kernel_rfl
theorem s49c (n : Int) (m : TEncl) (all : TSum) (one : TSum) (v : AV) (O : List (List AV)) (h : R49c n m all one (SpecOf Tryz.prog) (FreshOf Tryz.prog) (SeqOf Tryz.prog) (fun r O' => r = v ∧ O' = O)) : SpecOf Tryz.prog 49 [.int .i64 n, .fn 50 [] [.ref 0 0, .ref 3 0]] [[.fn 47 [] [.ref 1 0, .ref 2 0]], all.cs, one.cs, m.cs] v O :=
 spec_by (boxes := [⟨127, false, [.fn 47 [] [.ref 1 0, .ref 2 0]]⟩, ⟨91, false, all.cs⟩, ⟨91, false, one.cs⟩, ⟨23, false, m.cs⟩]) mixed (by exact trivial) Tryz.func49 Tryz.call49 rfl rfl rfl (Nat.le_of_ble_eq_true rfl) (r49c n m all one (SpecOf Tryz.prog) (FreshOf Tryz.prog) (SeqOf Tryz.prog) _) h
theorem c49c (n : Nat) (hn : n ≤ 1000000000) (x : TEncl) (all one : TSum) : Sp 49 [.int .i64 n, .fn 50 [] [.ref 0 0, .ref 3 0]] [[.fn 47 [] [.ref 1 0, .ref 2 0]], all.cs, one.cs, x.cs] (.int .i64 (searchF (lowS x all one) n 0 n : Nat)) [[.fn 47 [] [.ref 1 0, .ref 2 0]], all.cs, one.cs, x.cs] := s49c n x all one _ _ (by
 unfold R49c
 refine ⟨fun m vs => ∃ i j : Nat, i ≤ j ∧ j ≤ n ∧ j - i ≤ m ∧ vs = [.int .i64 i, .int .i64 j] ∧ searchF (lowS x all one) m i j = searchF (lowS x all one) n 0 n, ⟨n, 0, n, by omega, by omega, by omega, rfl, rfl⟩, ?_⟩
 rintro m n3 n4 ⟨i, j, h1, h2, h3, hv, hs⟩
 cases hv
 refine ⟨fun g => ?_, fun g => ?_⟩
 ·have hij : i < j := by simpa using g
  obtain ⟨k, rfl⟩ : ∃ k, m = k + 1 := ⟨m - 1, by omega⟩
  rw [searchF_s, if_pos hij] at hs
  rw [mid (by omega)]
  refine ⟨_, c50 ((i + j) / 2) (by omega) x all one, fun g2 => ⟨rfl, rfl, rfl, rfl, k, by omega, (i + j) / 2 + 1, j, by omega, by omega, by omega, ?_, ?_⟩, fun g2 => ⟨rfl, rfl, rfl, rfl, k, by omega, i, (i + j) / 2, by omega, by omega, by omega, rfl, ?_⟩⟩
  ·rw [nat1 (by omega)]
  ·have g2 : lowS x all one ((i + j) / 2) = false := by simpa using g2
   rw [if_neg (by rw [g2]; simp)] at hs; exact hs
  ·have g2 : lowS x all one ((i + j) / 2) = true := by simpa using g2
   rw [if_pos g2] at hs; exact hs
 ·have hij : ¬ i < j := by simpa using g
  rw [searchF_end _ _ _ _ hij] at hs
  rw [← hs]
  exact ⟨rfl, rfl⟩)
def R49d (n : Int) (m : TEncl) (all : TSum) (one : TSum) (S : SpecF) (_Fr : FreshF) (_Sq : SeqF) (Q : AV → List (List AV) → Prop) : Prop :=
 ∃ (I0 : Nat → List AV → Prop), (∃ m2, I0 m2 [AV.int .i64 0, .int .i64 n]) ∧ ∀ (m2 : Nat) (n3 n4 : Int), I0 m2 [AV.int .i64 n3, .int .i64 n4] → (decide (n3 < n4) = true → ∃ b8, S 51 [AV.int .i64 (IntKind.i64.wrap ((IntKind.u64.wrap (IntKind.i64.wrap (n3 + n4))).fdiv (2 : Int))), .ref 0 0, .ref 3 0] [[AV.fn (47 : FuncId) [] [AV.ref 1 0, .ref 2 0]], all.cs, one.cs, m.cs] (.bool b8) [[AV.fn (47 : FuncId) [] [AV.ref 1 0, .ref 2 0]], all.cs, one.cs, m.cs] ∧ ((!b8) = true → Same [AV.fn (47 : FuncId) [] [AV.ref 1 0, .ref 2 0]] ∧ all.cs = all.cs ∧ one.cs = one.cs ∧ m.cs = m.cs ∧ ∃ k16, k16 < m2 ∧ I0 k16 [AV.int .i64 (IntKind.i64.wrap (IntKind.i64.wrap ((IntKind.u64.wrap (IntKind.i64.wrap (n3 + n4))).fdiv (2 : Int)) + 1)), .int .i64 n4]) ∧ ((!b8) = false → Same [AV.fn (47 : FuncId) [] [AV.ref 1 0, .ref 2 0]] ∧ all.cs = all.cs ∧ one.cs = one.cs ∧ m.cs = m.cs ∧ ∃ k16, k16 < m2 ∧ I0 k16 [AV.int .i64 n3, .int .i64 (IntKind.i64.wrap ((IntKind.u64.wrap (IntKind.i64.wrap (n3 + n4))).fdiv (2 : Int)))])) ∧ (decide (n3 < n4) = false → Q (.int .i64 n3) [[AV.fn (47 : FuncId) [] [AV.ref 1 0, .ref 2 0]], all.cs, one.cs, m.cs])
theorem r49d (n : Int) (m : TEncl) (all : TSum) (one : TSum) (S : SpecF) (Fr : FreshF) (Sq : SeqF) (Q : AV → List (List AV) → Prop) : awpF Tryz.prog (mkS Tryz.prog S Fr Sq ⟨[], [], [51], [], []⟩ 0) 4 ⟨[0, 1, 4, 5, 6, 7, 11, 21], [⟨2, [(5, .int .i64 0), (6, .int .i64 0)], [], [], [], []⟩], [], []⟩ Tryz.f49 [.int .i64 n, .fn 51 [] [.ref 0 0, .ref 3 0]] [⟨127, false, [.fn 47 [] [.ref 1 0, .ref 2 0]]⟩, ⟨91, false, all.cs⟩, ⟨91, false, one.cs⟩, ⟨23, false, m.cs⟩] Q = R49d n m all one S Fr Sq Q := by kernel_rfl
theorem s49d (n : Int) (m : TEncl) (all : TSum) (one : TSum) (v : AV) (O : List (List AV)) (h : R49d n m all one (SpecOf Tryz.prog) (FreshOf Tryz.prog) (SeqOf Tryz.prog) (fun r O' => r = v ∧ O' = O)) : SpecOf Tryz.prog 49 [.int .i64 n, .fn 51 [] [.ref 0 0, .ref 3 0]] [[.fn 47 [] [.ref 1 0, .ref 2 0]], all.cs, one.cs, m.cs] v O :=
 spec_by (boxes := [⟨127, false, [.fn 47 [] [.ref 1 0, .ref 2 0]]⟩, ⟨91, false, all.cs⟩, ⟨91, false, one.cs⟩, ⟨23, false, m.cs⟩]) mixed (by exact trivial) Tryz.func49 Tryz.call49 rfl rfl rfl (Nat.le_of_ble_eq_true rfl) (r49d n m all one (SpecOf Tryz.prog) (FreshOf Tryz.prog) (SeqOf Tryz.prog) _) h
theorem c49d (n : Nat) (hn : n ≤ 1000000000) (x : TEncl) (all one : TSum) : Sp 49 [.int .i64 n, .fn 51 [] [.ref 0 0, .ref 3 0]] [[.fn 47 [] [.ref 1 0, .ref 2 0]], all.cs, one.cs, x.cs] (.int .i64 (searchF (highS x all one) n 0 n : Nat)) [[.fn 47 [] [.ref 1 0, .ref 2 0]], all.cs, one.cs, x.cs] := s49d n x all one _ _ (by
 unfold R49d
 refine ⟨fun m vs => ∃ i j : Nat, i ≤ j ∧ j ≤ n ∧ j - i ≤ m ∧ vs = [.int .i64 i, .int .i64 j] ∧ searchF (highS x all one) m i j = searchF (highS x all one) n 0 n, ⟨n, 0, n, by omega, by omega, by omega, rfl, rfl⟩, ?_⟩
 rintro m n3 n4 ⟨i, j, h1, h2, h3, hv, hs⟩
 cases hv
 refine ⟨fun g => ?_, fun g => ?_⟩
 ·have hij : i < j := by simpa using g
  obtain ⟨k, rfl⟩ : ∃ k, m = k + 1 := ⟨m - 1, by omega⟩
  rw [searchF_s, if_pos hij] at hs
  rw [mid (by omega)]
  refine ⟨_, c51 ((i + j) / 2) (by omega) x all one, fun g2 => ⟨rfl, rfl, rfl, rfl, k, by omega, (i + j) / 2 + 1, j, by omega, by omega, by omega, ?_, ?_⟩, fun g2 => ⟨rfl, rfl, rfl, rfl, k, by omega, i, (i + j) / 2, by omega, by omega, by omega, rfl, ?_⟩⟩
  ·rw [nat1 (by omega)]
  ·have g2 : highS x all one ((i + j) / 2) = false := by simpa using g2
   rw [if_neg (by rw [g2]; simp)] at hs; exact hs
  ·have g2 : highS x all one ((i + j) / 2) = true := by simpa using g2
   rw [if_pos g2] at hs; exact hs
 ·have hij : ¬ i < j := by simpa using g
  rw [searchF_end _ _ _ _ hij] at hs
  rw [← hs]
  exact ⟨rfl, rfl⟩)
def leastS (m : TEncl) (all one : TSum) (c : Nat) : Nat := 1 + searchF (lowS m all one) c 0 c
def mostS (m : TEncl) (all one : TSum) (c : Nat) : Nat := searchF (highS m all one) c 0 c
def suspX (t : TMtTask) (meter : Int) (p : TPair) (i : Nat) (x : TMtItem) : List TMtSuspect :=
 if x.Meter ≠ meter then [] else
 if leastS (metE p) (reckS t meter p.a.Day (daysP p).toNat) (lampsS t x p.a.Day (daysP p).toNat) x.Count.toNat ≤ mostS (metE p) (reckS t meter p.a.Day (daysP p).toNat) (lampsS t x p.a.Day (daysP p).toNat) x.Count.toNat then
  [⟨i, leastS (metE p) (reckS t meter p.a.Day (daysP p).toNat) (lampsS t x p.a.Day (daysP p).toNat) x.Count.toNat, mostS (metE p) (reckS t meter p.a.Day (daysP p).toNat) (lampsS t x p.a.Day (daysP p).toNat) x.Count.toNat⟩] else []
def suspK (t : TMtTask) (meter : Int) (p : TPair) : Nat → List TMtSuspect
 | 0 => []
 | k + 1 => suspK t meter p k ++ (match t.Items[k]? with
  | some x => suspX t meter p k x
  | none => [])
theorem suspX_len (t : TMtTask) (meter : Int) (p : TPair) (i : Nat) (x : TMtItem) : (suspX t meter p i x).length ≤ 1 := by
 unfold suspX; split
 ·simp
 ·split <;> simp
theorem suspK_len (t : TMtTask) (meter : Int) (p : TPair) : ∀ k, (suspK t meter p k).length ≤ k
 | 0 => Nat.le_refl _
 | k + 1 => by
  have := suspK_len t meter p k
  unfold suspK
  rw [List.length_append]
  split
  ·have := suspX_len t meter p k (by assumption); omega
  ·simp; omega
def suspectsR (t : TMtTask) (meter r : Int) : List TMtSuspect × Int :=
 if accE t meter 0 t.Meters.length ≠ 0 then ([], accE t meter 0 t.Meters.length) else
 if 0 ≤ r ∧ r + 1 < (meterAt t meter).Readings.length then (suspK t meter (pairAt (meterAt t meter) r.toNat) t.Items.length, 0) else ([], 4)
theorem suspS (l : List TMtSuspect) : elemsOf 3 (l.map TMtSuspect.av) ∧ ((l.map TMtSuspect.av).flatMap AV.cells).length = l.length * 3 ∧ ones ((l.map TMtSuspect.av).flatMap AV.cells) = true ∧ chunkA 3 l.length ((l.map TMtSuspect.av).flatMap AV.cells) = l.map TMtSuspect.av := flat_map (f := TMtSuspect.av) (g := TMtSuspect.cs) (k := 3) (fun _ => rfl) (fun _ => rfl) (fun _ => rfl) l
theorem agg71 : isAggT Tryz.prog 71 = true := by kernel_rfl
def R18 (t : TMtTask) (meter : Int) (reading1 : Int) (S : SpecF) (_Fr : FreshF) (Sq : SeqF) (Q : AV → List (List AV) → Prop) : Prop :=
 ∃ n0 n1 n2, S 52 [t.av] [] (.tup [AV.int .i64 n0, .int .i64 n1, .int .i64 n2]) [] ∧ ∃ (J4 : List AV → Prop), (((n2 == 0) = true → ∃ b8, S 38 [AV.int .i64 meter, .int .i64 0, .int .i64 (IntKind.i64.wrap ((↑(List.map TMtMeter.av t.Meters).length : Int) - (1 : Int)))] [] (.bool b8) [] ∧ (b8 = true → t.cs = t.cs ∧ t.cs = t.cs ∧ Same [AV.int .i64 reading1] ∧ Same [AV.nilp] ∧ Same [AV.str (ByteArray.mk #[]), .lit IntKind.i64 (0 : Int), .lit IntKind.i64 (0 : Int), .lit IntKind.i64 (0 : Int), .slc 0 [], .lit IntKind.i64 (0 : Int), .lit IntKind.i64 (0 : Int), .lit IntKind.i64 (0 : Int), .lit IntKind.i64 (0 : Int)] ∧ Same [AV.lit IntKind.i64 (0 : Int)] ∧ t.cs = t.cs ∧ t.cs = t.cs ∧ Same [AV.iface 1000000 (.slc 3 [])] ∧ Same [AV.int .i64 t.City.Lat, .int .i64 t.City.Lon, .int .i64 t.City.Zone, .int .i64 t.City.Altitude.Lo, .int .i64 t.City.Altitude.Hi, .slc 3 (List.map TLmTable.av t.Catalog.Tables), .slc 3 (List.map TLmLamp.av t.Catalog.Lamps), .slc 3 (List.map TMtProfile.av t.Profiles), .slc 3 (List.map TMtItem.av t.Items), .slc 3 (List.map TMtMeter.av t.Meters), .map ((174 : Nat) + (14 : Nat))] ∧ J4 [AV.int .i64 4]) ∧ (b8 = false → t.cs = t.cs ∧ t.cs = t.cs ∧ Same [AV.int .i64 reading1] ∧ Same [AV.nilp] ∧ Same [AV.str (ByteArray.mk #[]), .lit IntKind.i64 (0 : Int), .lit IntKind.i64 (0 : Int), .lit IntKind.i64 (0 : Int), .slc 0 [], .lit IntKind.i64 (0 : Int), .lit IntKind.i64 (0 : Int), .lit IntKind.i64 (0 : Int), .lit IntKind.i64 (0 : Int)] ∧ Same [AV.lit IntKind.i64 (0 : Int)] ∧ t.cs = t.cs ∧ t.cs = t.cs ∧ Same [AV.iface 1000000 (.slc 3 [])] ∧ Same [AV.int .i64 t.City.Lat, .int .i64 t.City.Lon, .int .i64 t.City.Zone, .int .i64 t.City.Altitude.Lo, .int .i64 t.City.Altitude.Hi, .slc 3 (List.map TLmTable.av t.Catalog.Tables), .slc 3 (List.map TLmLamp.av t.Catalog.Lamps), .slc 3 (List.map TMtProfile.av t.Profiles), .slc 3 (List.map TMtItem.av t.Items), .slc 3 (List.map TMtMeter.av t.Meters), .map ((174 : Nat) + (14 : Nat))] ∧ J4 [AV.int .i64 n2])) ∧ ((n2 == 0) = false → t.cs = t.cs ∧ t.cs = t.cs ∧ Same [AV.int .i64 reading1] ∧ Same [AV.nilp] ∧ Same [AV.str (ByteArray.mk #[]), .lit IntKind.i64 (0 : Int), .lit IntKind.i64 (0 : Int), .lit IntKind.i64 (0 : Int), .slc 0 [], .lit IntKind.i64 (0 : Int), .lit IntKind.i64 (0 : Int), .lit IntKind.i64 (0 : Int), .lit IntKind.i64 (0 : Int)] ∧ Same [AV.lit IntKind.i64 (0 : Int)] ∧ t.cs = t.cs ∧ t.cs = t.cs ∧ Same [AV.iface 1000000 (.slc 3 [])] ∧ Same [AV.int .i64 t.City.Lat, .int .i64 t.City.Lon, .int .i64 t.City.Zone, .int .i64 t.City.Altitude.Lo, .int .i64 t.City.Altitude.Hi, .slc 3 (List.map TLmTable.av t.Catalog.Tables), .slc 3 (List.map TLmLamp.av t.Catalog.Lamps), .slc 3 (List.map TMtProfile.av t.Profiles), .slc 3 (List.map TMtItem.av t.Items), .slc 3 (List.map TMtMeter.av t.Meters), .map ((174 : Nat) + (14 : Nat))] ∧ J4 [AV.int .i64 n2])) ∧ ∀ (n6 : Int), J4 [AV.int .i64 n6] → ((n6 != 0) = true → ((n6 != 0) = true → Q (.tup [AV.slc 3 [], .int .i64 n6]) []) ∧ ((n6 != 0) = false → ∃ n12 n13, S 43 [AV.agg [AV.str (ByteArray.mk #[]), .int .i64 0, .int .i64 0, .int .i64 0, .slc 3 [], .int .i64 0, .int .i64 0, .int .i64 0, .int .i64 0]] [] (.tup [AV.int .i64 n12, .int .i64 n13]) [] ∧ ∃ n15 n16, S 44 [AV.agg [AV.str (ByteArray.mk #[]), .int .i64 0, .int .i64 0, .int .i64 0, .slc 3 [], .int .i64 0, .int .i64 0, .int .i64 0, .int .i64 0]] [] (.agg [AV.int .i64 n15, .int .i64 n16]) [] ∧ ∃ n18 n19, S 45 [AV.nilp, .int .i64 meter, .int .i64 n12, .int .i64 n13] [] (.agg [AV.int .i64 n18, .int .i64 n19]) [] ∧ ∃ (I21 : Nat → List AV → Prop), False ∧ ∀ (m23 : Nat) (n24 : Int) (es25 es26 : List AV), I21 m23 [AV.int .i64 n24, .slc 3 es25, .agg [AV.iface 1000000 (.slc 3 es26)]] → (decide (n24 < (↑(List.map TMtItem.av t.Items).length : Int)) = true → ∃ s30 n31 n32 n33 n34 n35 n36 n37, ((0 : Int) ≤ n24 ∧ (8 : Nat) = (8 : Nat) ∧ (List.map TMtItem.av t.Items)[n24.toNat]? = some (.agg [AV.str s30, .int .i64 n31, .int .i64 n32, .int .i64 n33, .int .i64 n34, .int .i64 n35, .int .i64 n36, .int .i64 n37])) ∧ ((n34 != meter) = true → t.cs = t.cs ∧ Same [AV.str (ByteArray.mk #[]), .lit IntKind.i64 (0 : Int), .lit IntKind.i64 (0 : Int), .lit IntKind.i64 (0 : Int), .slc 0 [], .lit IntKind.i64 (0 : Int), .lit IntKind.i64 (0 : Int), .lit IntKind.i64 (0 : Int), .lit IntKind.i64 (0 : Int)] ∧ Same [AV.int .i64 n15, .int .i64 n16] ∧ Same [AV.int .i64 n18, .int .i64 n19] ∧ t.cs = t.cs ∧ Same [AV.int .i64 reading1] ∧ Same [AV.nilp] ∧ Same [AV.str (ByteArray.mk #[]), .lit IntKind.i64 (0 : Int), .lit IntKind.i64 (0 : Int), .lit IntKind.i64 (0 : Int), .slc 0 [], .lit IntKind.i64 (0 : Int), .lit IntKind.i64 (0 : Int), .lit IntKind.i64 (0 : Int), .lit IntKind.i64 (0 : Int)] ∧ Same [AV.int .i64 n6] ∧ Same [AV.ref ((174 : Nat) + (16 : Nat)) (0 : Nat)] ∧ t.cs = t.cs ∧ t.cs = t.cs ∧ Same [AV.iface 1000000 (.slc 3 [])] ∧ Same [AV.int .i64 t.City.Lat, .int .i64 t.City.Lon, .int .i64 t.City.Zone, .int .i64 t.City.Altitude.Lo, .int .i64 t.City.Altitude.Hi, .slc 3 (List.map TLmTable.av t.Catalog.Tables), .slc 3 (List.map TLmLamp.av t.Catalog.Lamps), .slc 3 (List.map TMtProfile.av t.Profiles), .slc 3 (List.map TMtItem.av t.Items), .slc 3 (List.map TMtMeter.av t.Meters), .map ((174 : Nat) + (14 : Nat))] ∧ False) ∧ ((n34 != meter) = false → ∃ n41 n42, S 46 [AV.nilp, .agg [AV.str s30, .int .i64 n31, .int .i64 n32, .int .i64 n33, .int .i64 n34, .int .i64 n35, .int .i64 n36, .int .i64 n37], .int .i64 n12, .int .i64 n13] [] (.agg [AV.int .i64 n41, .int .i64 n42]) [] ∧ ∃ n44, S 49 [AV.int .i64 n32, AV.fn (50 : Nat) [] [AV.ref 0 0, .ref 3 0]] [[AV.fn (47 : Nat) [] [AV.ref 1 0, .ref 2 0]], [AV.int .i64 n18, .int .i64 n19], [AV.int .i64 n41, .int .i64 n42], [AV.int .i64 n15, .int .i64 n16]] (.int .i64 n44) [[AV.fn (47 : Nat) [] [AV.ref 1 0, .ref 2 0]], [AV.int .i64 n18, .int .i64 n19], [AV.int .i64 n41, .int .i64 n42], [AV.int .i64 n15, .int .i64 n16]] ∧ ∃ n46, S 49 [AV.int .i64 n32, AV.fn (51 : Nat) [] [AV.ref 0 0, .ref 3 0]] [[AV.fn (47 : Nat) [] [AV.ref 1 0, .ref 2 0]], [AV.int .i64 n18, .int .i64 n19], [AV.int .i64 n41, .int .i64 n42], [AV.int .i64 n15, .int .i64 n16]] (.int .i64 n46) [[AV.fn (47 : Nat) [] [AV.ref 1 0, .ref 2 0]], [AV.int .i64 n18, .int .i64 n19], [AV.int .i64 n41, .int .i64 n42], [AV.int .i64 n15, .int .i64 n16]] ∧ (decide (IntKind.i64.wrap ((1 : Int) + n44) ≤ n46) = true → elemsOf (3 : Nat) [AV.agg [AV.int .i64 n24, .int .i64 (IntKind.i64.wrap ((1 : Int) + n44)), .int .i64 n46]] ∧ ((List.flatMap AV.cells es25).length = es25.length * 3 ∧ (es25.length + 1 + (512 : Nat)) * 121 ≤ (1125899906842624 : Nat) ∧ ones [AV.int .i64 n24, .int .i64 (IntKind.i64.wrap ((1 : Int) + n44)), .int .i64 n46] = true ∧ ones (List.flatMap AV.cells es25) = true) ∧ t.cs = t.cs ∧ Same [AV.str (ByteArray.mk #[]), .lit IntKind.i64 (0 : Int), .lit IntKind.i64 (0 : Int), .lit IntKind.i64 (0 : Int), .slc 0 [], .lit IntKind.i64 (0 : Int), .lit IntKind.i64 (0 : Int), .lit IntKind.i64 (0 : Int), .lit IntKind.i64 (0 : Int)] ∧ Same [AV.int .i64 n15, .int .i64 n16] ∧ Same [AV.int .i64 n18, .int .i64 n19] ∧ t.cs = t.cs ∧ Same [AV.int .i64 reading1] ∧ Same [AV.nilp] ∧ Same [AV.str (ByteArray.mk #[]), .lit IntKind.i64 (0 : Int), .lit IntKind.i64 (0 : Int), .lit IntKind.i64 (0 : Int), .slc 0 [], .lit IntKind.i64 (0 : Int), .lit IntKind.i64 (0 : Int), .lit IntKind.i64 (0 : Int), .lit IntKind.i64 (0 : Int)] ∧ Same [AV.int .i64 n6] ∧ Same [AV.ref ((174 : Nat) + (16 : Nat)) (0 : Nat)] ∧ t.cs = t.cs ∧ t.cs = t.cs ∧ Same [AV.iface 1000000 (.slc 3 [])] ∧ Same [AV.int .i64 t.City.Lat, .int .i64 t.City.Lon, .int .i64 t.City.Zone, .int .i64 t.City.Altitude.Lo, .int .i64 t.City.Altitude.Hi, .slc 3 (List.map TLmTable.av t.Catalog.Tables), .slc 3 (List.map TLmLamp.av t.Catalog.Lamps), .slc 3 (List.map TMtProfile.av t.Profiles), .slc 3 (List.map TMtItem.av t.Items), .slc 3 (List.map TMtMeter.av t.Meters), .map ((174 : Nat) + (14 : Nat))] ∧ False) ∧ (decide (IntKind.i64.wrap ((1 : Int) + n44) ≤ n46) = false → t.cs = t.cs ∧ Same [AV.str (ByteArray.mk #[]), .lit IntKind.i64 (0 : Int), .lit IntKind.i64 (0 : Int), .lit IntKind.i64 (0 : Int), .slc 0 [], .lit IntKind.i64 (0 : Int), .lit IntKind.i64 (0 : Int), .lit IntKind.i64 (0 : Int), .lit IntKind.i64 (0 : Int)] ∧ Same [AV.int .i64 n15, .int .i64 n16] ∧ Same [AV.int .i64 n18, .int .i64 n19] ∧ t.cs = t.cs ∧ Same [AV.int .i64 reading1] ∧ Same [AV.nilp] ∧ Same [AV.str (ByteArray.mk #[]), .lit IntKind.i64 (0 : Int), .lit IntKind.i64 (0 : Int), .lit IntKind.i64 (0 : Int), .slc 0 [], .lit IntKind.i64 (0 : Int), .lit IntKind.i64 (0 : Int), .lit IntKind.i64 (0 : Int), .lit IntKind.i64 (0 : Int)] ∧ Same [AV.int .i64 n6] ∧ Same [AV.ref ((174 : Nat) + (16 : Nat)) (0 : Nat)] ∧ t.cs = t.cs ∧ t.cs = t.cs ∧ Same [AV.iface 1000000 (.slc 3 [])] ∧ Same [AV.int .i64 t.City.Lat, .int .i64 t.City.Lon, .int .i64 t.City.Zone, .int .i64 t.City.Altitude.Lo, .int .i64 t.City.Altitude.Hi, .slc 3 (List.map TLmTable.av t.Catalog.Tables), .slc 3 (List.map TLmLamp.av t.Catalog.Lamps), .slc 3 (List.map TMtProfile.av t.Profiles), .slc 3 (List.map TMtItem.av t.Items), .slc 3 (List.map TMtMeter.av t.Meters), .map ((174 : Nat) + (14 : Nat))] ∧ False))) ∧ (decide (n24 < (↑(List.map TMtItem.av t.Items).length : Int)) = false → (0 : Nat) + es25.length * 3 ≤ (List.flatMap AV.cells es25).length ∧ Q (.tup [AV.slc 3 (chunks (3 : Nat) (isAggT Tryz.prog (71 : Nat)) es25.length (List.drop (0 : Nat) (List.flatMap AV.cells es25))), .int .i64 0]) []))) ∧ ((n6 != 0) = false → ∃ s10 n11 n12 n13 es14, ((0 : Int) ≤ meter ∧ (5 : Nat) = (5 : Nat) ∧ (List.map TMtMeter.av t.Meters)[meter.toNat]? = some (.agg [AV.str s10, .int .i64 n11, .int .i64 n12, .int .i64 n13, .slc 3 es14])) ∧ ∃ s16 n17 n18 n19 es20, S 40 [AV.agg [AV.str s10, .int .i64 n11, .int .i64 n12, .int .i64 n13, .slc 3 es14]] [] (AV.fn (80 : FuncId) [] [AV.eptr [AV.str s16, .int .i64 n17, .int .i64 n18, .int .i64 n19, .slc 3 es20] (0 : Nat)]) [] ∧ ∃ xs22, Sq (80 : FuncId) [AV.eptr [AV.str s16, .int .i64 n17, .int .i64 n18, .int .i64 n19, .slc 3 es20] (0 : Nat)] [] xs22 ∧ (∀ (x25 : List AV), x25 ∈ xs22 → fitL [AV.int .i64 0, .agg [AV.str default, .int .i64 0, .int .i64 0, .int .i64 0, .slc 3 [], .int .i64 0, .int .i64 0, .int .i64 0, .int .i64 0]] x25 = true ∧ AV.treeL x25 = true) ∧ ∃ (I25 : Nat → List AV → Prop), I25 (0 : Nat) [AV.agg [AV.str (ByteArray.mk #[]), .int .i64 0, .int .i64 0, .int .i64 0, .slc 3 [], .int .i64 0, .int .i64 0, .int .i64 0, .int .i64 0], .agg [AV.int .i64 0]] ∧ (∀ (i28 : Nat) (n29 : Int) (s30 : ByteArray) (n31 n32 n33 : Int) (es34 : List AV) (n35 n36 n37 n38 : Int), xs22[i28]? = some [AV.int .i64 n29, .agg [AV.str s30, .int .i64 n31, .int .i64 n32, .int .i64 n33, .slc 3 es34, .int .i64 n35, .int .i64 n36, .int .i64 n37, .int .i64 n38]] → ∀ (s40 : ByteArray) (n41 n42 n43 : Int) (es44 : List AV) (n45 n46 n47 n48 n49 : Int), I25 i28 [AV.agg [AV.str s40, .int .i64 n41, .int .i64 n42, .int .i64 n43, .slc 3 es44, .int .i64 n45, .int .i64 n46, .int .i64 n47, .int .i64 n48], .agg [AV.int .i64 n49]] → ((n29 == reading1) = true → ∃ n53 n54, S 43 [AV.agg [AV.str s30, .int .i64 n31, .int .i64 n32, .int .i64 n33, .slc 3 es34, .int .i64 n35, .int .i64 n36, .int .i64 n37, .int .i64 n38]] [] (.tup [AV.int .i64 n53, .int .i64 n54]) [] ∧ ∃ n56 n57, S 44 [AV.agg [AV.str s30, .int .i64 n31, .int .i64 n32, .int .i64 n33, .slc 3 es34, .int .i64 n35, .int .i64 n36, .int .i64 n37, .int .i64 n38]] [] (.agg [AV.int .i64 n56, .int .i64 n57]) [] ∧ ∃ n59 n60 es61, S 45 [AV.ref 0 0, .int .i64 meter, .int .i64 n53, .int .i64 n54] [(TAccount.mk t (.map 1)).cs, [AV.iface 1000000 (.slc 3 [])]] (.agg [AV.int .i64 n59, .int .i64 n60]) [(TAccount.mk t (.map 1)).cs, [AV.iface 1000000 (.slc 3 es61)]] ∧ ∃ (I63 : Nat → List AV → Prop), (∃ m65, I63 m65 [AV.int .i64 0, .slc 3 [], .agg [AV.iface 1000000 (.slc 3 es61)]]) ∧ ∀ (m65 : Nat) (n66 : Int) (es67 es68 : List AV), I63 m65 [AV.int .i64 n66, .slc 3 es67, .agg [AV.iface 1000000 (.slc 3 es68)]] → (decide (n66 < (↑(List.map TMtItem.av t.Items).length : Int)) = true → ∃ s72 n73 n74 n75 n76 n77 n78 n79, ((0 : Int) ≤ n66 ∧ (8 : Nat) = (8 : Nat) ∧ (List.map TMtItem.av t.Items)[n66.toNat]? = some (.agg [AV.str s72, .int .i64 n73, .int .i64 n74, .int .i64 n75, .int .i64 n76, .int .i64 n77, .int .i64 n78, .int .i64 n79])) ∧ ((n76 != meter) = true → t.cs = t.cs ∧ Same [AV.str s30, .int .i64 n31, .int .i64 n32, .int .i64 n33, .slc 3 es34, .int .i64 n35, .int .i64 n36, .int .i64 n37, .int .i64 n38] ∧ Same [AV.int .i64 n56, .int .i64 n57] ∧ Same [AV.int .i64 n59, .int .i64 n60] ∧ t.cs = t.cs ∧ Same [AV.int .i64 reading1] ∧ Same [AV.ref ((174 : Nat) + (16 : Nat)) (0 : Nat)] ∧ Same [AV.str s30, .int .i64 n31, .int .i64 n32, .int .i64 n33, .slc 3 es34, .int .i64 n35, .int .i64 n36, .int .i64 n37, .int .i64 n38] ∧ Same [AV.lit IntKind.i64 (0 : Int)] ∧ Same [AV.ref ((174 : Nat) + (16 : Nat)) (0 : Nat)] ∧ t.cs = t.cs ∧ t.cs = t.cs ∧ Same [AV.int .i64 t.City.Lat, .int .i64 t.City.Lon, .int .i64 t.City.Zone, .int .i64 t.City.Altitude.Lo, .int .i64 t.City.Altitude.Hi, .slc 3 (List.map TLmTable.av t.Catalog.Tables), .slc 3 (List.map TLmLamp.av t.Catalog.Lamps), .slc 3 (List.map TMtProfile.av t.Profiles), .slc 3 (List.map TMtItem.av t.Items), .slc 3 (List.map TMtMeter.av t.Meters), .map ((174 : Nat) + (14 : Nat))] ∧ Same [AV.str s30, .int .i64 n31, .int .i64 n32, .int .i64 n33, .slc 3 es34, .int .i64 n35, .int .i64 n36, .int .i64 n37, .int .i64 n38] ∧ ∃ es97, (es97.length = es67.length ∧ List.flatMap AV.cells es97 = List.flatMap AV.cells es67) ∧ ∃ k99, k99 < m65 ∧ I63 k99 [AV.int .i64 (IntKind.i64.wrap (n66 + 1)), .slc 3 es97, .agg [AV.iface 1000000 (.slc 3 es68)]]) ∧ ((n76 != meter) = false → ∃ n83 n84 es85, S 46 [AV.ref 0 0, .agg [AV.str s72, .int .i64 n73, .int .i64 n74, .int .i64 n75, .int .i64 n76, .int .i64 n77, .int .i64 n78, .int .i64 n79], .int .i64 n53, .int .i64 n54] [(TAccount.mk t (.map 1)).cs, [AV.iface 1000000 (.slc 3 es68)]] (.agg [AV.int .i64 n83, .int .i64 n84]) [(TAccount.mk t (.map 1)).cs, [AV.iface 1000000 (.slc 3 es85)]] ∧ ∃ n87, S 49 [AV.int .i64 n74, AV.fn (50 : Nat) [] [AV.ref 0 0, .ref 3 0]] [[AV.fn (47 : Nat) [] [AV.ref 1 0, .ref 2 0]], [AV.int .i64 n59, .int .i64 n60], [AV.int .i64 n83, .int .i64 n84], [AV.int .i64 n56, .int .i64 n57]] (.int .i64 n87) [[AV.fn (47 : Nat) [] [AV.ref 1 0, .ref 2 0]], [AV.int .i64 n59, .int .i64 n60], [AV.int .i64 n83, .int .i64 n84], [AV.int .i64 n56, .int .i64 n57]] ∧ ∃ n89, S 49 [AV.int .i64 n74, AV.fn (51 : Nat) [] [AV.ref 0 0, .ref 3 0]] [[AV.fn (47 : Nat) [] [AV.ref 1 0, .ref 2 0]], [AV.int .i64 n59, .int .i64 n60], [AV.int .i64 n83, .int .i64 n84], [AV.int .i64 n56, .int .i64 n57]] (.int .i64 n89) [[AV.fn (47 : Nat) [] [AV.ref 1 0, .ref 2 0]], [AV.int .i64 n59, .int .i64 n60], [AV.int .i64 n83, .int .i64 n84], [AV.int .i64 n56, .int .i64 n57]] ∧ (decide (IntKind.i64.wrap ((1 : Int) + n87) ≤ n89) = true → elemsOf (3 : Nat) [AV.agg [AV.int .i64 n66, .int .i64 (IntKind.i64.wrap ((1 : Int) + n87)), .int .i64 n89]] ∧ ((List.flatMap AV.cells es67).length = es67.length * 3 ∧ (es67.length + 1 + (512 : Nat)) * 121 ≤ (1125899906842624 : Nat) ∧ ones [AV.int .i64 n66, .int .i64 (IntKind.i64.wrap ((1 : Int) + n87)), .int .i64 n89] = true ∧ ones (List.flatMap AV.cells es67) = true) ∧ t.cs = t.cs ∧ Same [AV.str s30, .int .i64 n31, .int .i64 n32, .int .i64 n33, .slc 3 es34, .int .i64 n35, .int .i64 n36, .int .i64 n37, .int .i64 n38] ∧ Same [AV.int .i64 n56, .int .i64 n57] ∧ Same [AV.int .i64 n59, .int .i64 n60] ∧ t.cs = t.cs ∧ Same [AV.int .i64 reading1] ∧ Same [AV.ref ((174 : Nat) + (16 : Nat)) (0 : Nat)] ∧ Same [AV.str s30, .int .i64 n31, .int .i64 n32, .int .i64 n33, .slc 3 es34, .int .i64 n35, .int .i64 n36, .int .i64 n37, .int .i64 n38] ∧ Same [AV.lit IntKind.i64 (0 : Int)] ∧ Same [AV.ref ((174 : Nat) + (16 : Nat)) (0 : Nat)] ∧ t.cs = t.cs ∧ t.cs = t.cs ∧ Same [AV.int .i64 t.City.Lat, .int .i64 t.City.Lon, .int .i64 t.City.Zone, .int .i64 t.City.Altitude.Lo, .int .i64 t.City.Altitude.Hi, .slc 3 (List.map TLmTable.av t.Catalog.Tables), .slc 3 (List.map TLmLamp.av t.Catalog.Lamps), .slc 3 (List.map TMtProfile.av t.Profiles), .slc 3 (List.map TMtItem.av t.Items), .slc 3 (List.map TMtMeter.av t.Meters), .map ((174 : Nat) + (14 : Nat))] ∧ Same [AV.str s30, .int .i64 n31, .int .i64 n32, .int .i64 n33, .slc 3 es34, .int .i64 n35, .int .i64 n36, .int .i64 n37, .int .i64 n38] ∧ ∃ es109, (es109.length = es67.length + 1 ∧ List.flatMap AV.cells es109 = List.flatMap AV.cells es67 ++ [AV.int .i64 n66, .int .i64 (IntKind.i64.wrap ((1 : Int) + n87)), .int .i64 n89]) ∧ ∃ k111, k111 < m65 ∧ I63 k111 [AV.int .i64 (IntKind.i64.wrap (n66 + 1)), .slc 3 es109, .agg [AV.iface 1000000 (.slc 3 es85)]]) ∧ (decide (IntKind.i64.wrap ((1 : Int) + n87) ≤ n89) = false → t.cs = t.cs ∧ Same [AV.str s30, .int .i64 n31, .int .i64 n32, .int .i64 n33, .slc 3 es34, .int .i64 n35, .int .i64 n36, .int .i64 n37, .int .i64 n38] ∧ Same [AV.int .i64 n56, .int .i64 n57] ∧ Same [AV.int .i64 n59, .int .i64 n60] ∧ t.cs = t.cs ∧ Same [AV.int .i64 reading1] ∧ Same [AV.ref ((174 : Nat) + (16 : Nat)) (0 : Nat)] ∧ Same [AV.str s30, .int .i64 n31, .int .i64 n32, .int .i64 n33, .slc 3 es34, .int .i64 n35, .int .i64 n36, .int .i64 n37, .int .i64 n38] ∧ Same [AV.lit IntKind.i64 (0 : Int)] ∧ Same [AV.ref ((174 : Nat) + (16 : Nat)) (0 : Nat)] ∧ t.cs = t.cs ∧ t.cs = t.cs ∧ Same [AV.int .i64 t.City.Lat, .int .i64 t.City.Lon, .int .i64 t.City.Zone, .int .i64 t.City.Altitude.Lo, .int .i64 t.City.Altitude.Hi, .slc 3 (List.map TLmTable.av t.Catalog.Tables), .slc 3 (List.map TLmLamp.av t.Catalog.Lamps), .slc 3 (List.map TMtProfile.av t.Profiles), .slc 3 (List.map TMtItem.av t.Items), .slc 3 (List.map TMtMeter.av t.Meters), .map ((174 : Nat) + (14 : Nat))] ∧ Same [AV.str s30, .int .i64 n31, .int .i64 n32, .int .i64 n33, .slc 3 es34, .int .i64 n35, .int .i64 n36, .int .i64 n37, .int .i64 n38] ∧ ∃ es107, (es107.length = es67.length ∧ List.flatMap AV.cells es107 = List.flatMap AV.cells es67) ∧ ∃ k109, k109 < m65 ∧ I63 k109 [AV.int .i64 (IntKind.i64.wrap (n66 + 1)), .slc 3 es107, .agg [AV.iface 1000000 (.slc 3 es85)]]))) ∧ (decide (n66 < (↑(List.map TMtItem.av t.Items).length : Int)) = false → (0 : Nat) + es67.length * 3 ≤ (List.flatMap AV.cells es67).length ∧ Q (.tup [AV.slc 3 (chunks (3 : Nat) (isAggT Tryz.prog (71 : Nat)) es67.length (List.drop (0 : Nat) (List.flatMap AV.cells es67))), .int .i64 0]) [])) ∧ ((n29 == reading1) = false → t.cs = t.cs ∧ t.cs = t.cs ∧ Same [AV.int .i64 reading1] ∧ Same [AV.nilp] ∧ Same [AV.ref ((174 : Nat) + (16 : Nat)) (0 : Nat)] ∧ t.cs = t.cs ∧ t.cs = t.cs ∧ Same [AV.iface 1000000 (.slc 3 [])] ∧ Same [AV.int .i64 t.City.Lat, .int .i64 t.City.Lon, .int .i64 t.City.Zone, .int .i64 t.City.Altitude.Lo, .int .i64 t.City.Altitude.Hi, .slc 3 (List.map TLmTable.av t.Catalog.Tables), .slc 3 (List.map TLmLamp.av t.Catalog.Lamps), .slc 3 (List.map TMtProfile.av t.Profiles), .slc 3 (List.map TMtItem.av t.Items), .slc 3 (List.map TMtMeter.av t.Meters), .map ((174 : Nat) + (14 : Nat))] ∧ I25 (i28 + 1) [AV.agg [AV.str s40, .int .i64 n41, .int .i64 n42, .int .i64 n43, .slc 3 es44, .int .i64 n45, .int .i64 n46, .int .i64 n47, .int .i64 n48], .agg [AV.int .i64 n49]])) ∧ ∀ (s28 : ByteArray) (n29 n30 n31 : Int) (es32 : List AV) (n33 n34 n35 n36 n37 : Int), I25 xs22.length [AV.agg [AV.str s28, .int .i64 n29, .int .i64 n30, .int .i64 n31, .slc 3 es32, .int .i64 n33, .int .i64 n34, .int .i64 n35, .int .i64 n36], .agg [AV.int .i64 n37]] → Q (.tup [AV.slc 3 [], .int .i64 4]) [])
theorem r18 (t : TMtTask) (meter : Int) (reading1 : Int) (S : SpecF) (Fr : FreshF) (Sq : SeqF) (Q : AV → List (List AV) → Prop) : awpF Tryz.prog (mkS Tryz.prog S Fr Sq ⟨[], [(40, [.fn 80 [] [.eptr [.str default, .int .i64 0, .int .i64 0, .int .i64 0, .slc 3 []] 0]])], [49, 1000045, 1000046, 999000046], [(42, ⟨[0, 1, 2, 3, 5, 6, 7, 8, 9, 10, 11, 12, 23, 31, 32, 33, 36], [⟨7, [], [], [(7, .agg [.str default, .int .i64 0, .int .i64 0, .int .i64 0, .slc 3 [], .int .i64 0, .int .i64 0, .int .i64 0, .int .i64 0]), (8, .agg [.int .i64 0])], [], [.int .i64 0, .agg [.str default, .int .i64 0, .int .i64 0, .int .i64 0, .slc 3 [], .int .i64 0, .int .i64 0, .int .i64 0, .int .i64 0]]⟩], [], []⟩), (25, ⟨[0, 1, 2, 3, 4, 8, 9, 10, 11, 25], [], [⟨4, [(11, .int .i64 0)], [], [], [], []⟩], []⟩), (62, ⟨[0, 1, 2, 3, 6], [], [], []⟩)], []⟩ 4) 0 ⟨[0, 1, 2, 3, 6, 7, 8, 9, 10, 11, 12, 13, 14, 15, 16, 17, 18, 19, 29, 44, 45, 46, 47, 54, 72], [⟨7, [(46, .int .i64 0)], [(6, 71)], [(3000008, .agg [.iface 1000000 (.slc 3 [])])], [], []⟩], [], []⟩ Tryz.f18 [t.av, .int .i64 meter, .int .i64 reading1] [] Q = R18 t meter reading1 S Fr Sq Q := by kernel_rfl
theorem s18 (t : TMtTask) (meter : Int) (reading1 : Int) (v : AV) (O : List (List AV)) (h : R18 t meter reading1 (SpecOf Tryz.prog) (FreshOf Tryz.prog) (SeqOf Tryz.prog) (fun r O' => r = v ∧ O' = O)) : SpecOf Tryz.prog 18 [t.av, .int .i64 meter, .int .i64 reading1] [] v O :=
 spec_by (boxes := []) mixed (by exact ⟨Tryz.call42, ⟨Tryz.call25, ⟨Tryz.call62, trivial⟩⟩⟩) Tryz.func18 Tryz.call18 rfl rfl rfl (Nat.le_of_ble_eq_true rfl) (r18 t meter reading1 (SpecOf Tryz.prog) (FreshOf Tryz.prog) (SeqOf Tryz.prog) _) h
theorem c18 (t : TMtTask) (ht : TaskOK t) (hn2 : t.Meters.length ≤ 2 ^ 62) (meter r : Int) : Sp 18 [t.av, .int .i64 meter, .int .i64 r] [] (.tup [.slc 3 ((suspectsR t meter r).1.map TMtSuspect.av), .int .i64 (suspectsR t meter r).2]) [] := s18 t meter r _ _ (by
 unfold R18
 rw [List.length_map]
 refine ⟨_, _, _, c52 t ht, fun vs => vs = [.int .i64 (accE t meter 0 t.Meters.length)], ⟨fun h => ⟨_, c38 .., fun h2 => ⟨rfl, rfl, rfl, rfl, rfl, rfl, rfl, rfl, rfl, rfl, ?_⟩, fun h2 => ⟨rfl, rfl, rfl, rfl, rfl, rfl, rfl, rfl, rfl, rfl, ?_⟩⟩, fun h => ⟨rfl, rfl, rfl, rfl, rfl, rfl, rfl, rfl, rfl, rfl, ?_⟩⟩, ?_⟩
 ·unfold accE; rw [withE_out h h2]
 ·unfold accE; rw [withE_in h2]
 ·unfold accE; rw [withE_bad h]
 intro n6 hv
 cases hv
 unfold suspectsR
 refine ⟨fun h => ⟨fun h' => ⟨?_, rfl⟩, fun h' => ?_⟩, fun h => ?_⟩
 ·rw [if_pos (by simpa using h)]; rfl
 ·rw [h] at h'; cases h'
 have h : accE t meter 0 t.Meters.length = 0 := by simpa using h
 obtain ⟨hv, h0, h1⟩ := accE_zero hn2 h
 obtain ⟨_, hm, hx⟩ := meter_get h0 h1
 have hmv := hv.meter hm
 rw [if_neg (by simp [h])]
 generalize meterAt t meter = m at *
 have hlen := hmv.number
 have hni := hv.ni
 refine ⟨m.Name, m.Step, m.Modulus, m.Error, List.map TMtReading.av m.Readings, ⟨h0, rfl, hx⟩, m.Name, m.Step, m.Modulus, m.Error, List.map TMtReading.av m.Readings, c40 m, _, sqPairs m (by omega), fun v hv => ?_, fun i vs => vs = [TPair.zero.av, .agg [.int .i64 0]] ∧ ∀ j : Nat, j < i → (j : Int) ≠ r, ⟨rfl, by omega⟩, ?_, ?_⟩
 ·obtain ⟨i, p, _, rfl⟩ := pairL_fit v hv
  exact ⟨rfl, rfl⟩
 ·rintro i n29 s30 n31 n32 n33 es34 n35 n36 n37 n38 hi s40 n41 n42 n43 es44 n45 n46 n47 n48 n49 ⟨hv2, hj⟩
  obtain ⟨hil, he⟩ := pairL_atP hi
  have hp := pairAt_v hmv hil
  cases hv2
  refine ⟨fun hr => ?_, fun hr => ⟨rfl, rfl, rfl, rfl, rfl, rfl, rfl, rfl, rfl, rfl, fun j hlt => ?_⟩⟩
  ·have hr : n29 = r := by simpa using hr
   subst hr
   generalize hpe : pairAt m i = p at *
   cases he
   rw [if_pos (by omega), Int.toNat_natCast, hpe]
   have hd : daysP p ≤ 2 ^ 62 := by rw [hp.days]; have := hp.gap; omega
   have hI : ∀ x ∈ t.Items, ItemOK t x := fun x hx => hv.itemOK ht.cat hx
   refine ⟨_, _, c43 p, _, _, c44 p hp.meter, _, _, _, c45 t hI (by omega) meter p.a.Day _ hd [] List.nodup_nil, ?_⟩
   refine ⟨fun m vs => ∃ (k : Nat) (L : List Int), k ≤ t.Items.length ∧ m = t.Items.length - k ∧ L.Nodup ∧ vs = [.int .i64 k, .slc 3 ((suspK t meter p k).map TMtSuspect.av), .agg (memA t.City L)], ⟨_, 0, memR t meter p.a.Day (daysP p).toNat [], by omega, rfl, memI_nodup _ List.nodup_nil, rfl⟩, ?_⟩
   rintro m65 n66 es67 es68 ⟨k, L, hk, rfl, hL, hv3⟩
   have hkl := suspK_len t meter p k
   have hF := suspS (suspK t meter p k)
   generalize hq : suspK t meter p k = q at *
   cases hv3
   rw [List.length_map]
   refine ⟨fun g => ?_, fun g => ?_⟩
   ·have hlt : k < t.Items.length := by have := of_decide_eq_true g; omega
    obtain ⟨x, hx1, hx2⟩ := map_getN (f := TMtItem.av) hlt
    have hxv := hv.item (List.mem_of_getElem? hx1)
    have hc := hxv.count
    obtain ⟨c, hcx⟩ : ∃ c : Nat, x.Count = c := ⟨x.Count.toNat, by omega⟩
    have hs : suspK t meter p (k + 1) = q ++ suspX t meter p k x := by unfold suspK; rw [hq, hx1]
    have w1 : IntKind.i64.wrap ((k : Int) + 1) = ((k + 1 : Nat) : Int) := by rw [i64 (by omega)]; omega
    have hnil : ∀ L' : List Int, L'.Nodup → suspX t meter p k x = [] → ∃ k99, k99 < t.Items.length - k ∧ ∃ (k' : Nat) (L'' : List Int), k' ≤ t.Items.length ∧ k99 = t.Items.length - k' ∧ L''.Nodup ∧ [AV.int .i64 (IntKind.i64.wrap ((k : Int) + 1)), AV.slc 3 (q.map TMtSuspect.av), AV.agg [.iface 1000000 (.slc 3 (L'.map (entN t.City)))]] = [.int .i64 k', .slc 3 ((suspK t meter p k').map TMtSuspect.av), .agg (memA t.City L'')] := fun L' hL' he => by
     refine ⟨t.Items.length - (k + 1), by omega, k + 1, L', by omega, rfl, hL', ?_⟩
     rw [w1, hs, he, List.append_nil]; rfl
    refine ⟨x.Name, x.Lamp, x.Count, x.Profile, x.Meter, x.Declared, x.From, x.Until, ⟨by omega, rfl, hx2⟩, fun g2 => ⟨rfl, rfl, rfl, rfl, rfl, rfl, rfl, rfl, rfl, rfl, rfl, rfl, rfl, rfl, q.map TMtSuspect.av, ⟨rfl, rfl⟩, hnil L hL ?_⟩, fun g2 => ?_⟩
    ·unfold suspX; rw [if_pos (by simpa using g2)]
    ·have g2 : x.Meter = meter := by simpa using g2
     have k46 := c46 t x (hI x (List.mem_of_getElem? hx1)) p.a.Day _ hd L hL
     have kc := c49c c (by omega) (metE p) (reckS t meter p.a.Day (daysP p).toNat) (lampsS t x p.a.Day (daysP p).toNat)
     have kd := c49d c (by omega) (metE p) (reckS t meter p.a.Day (daysP p).toNat) (lampsS t x p.a.Day (daysP p).toNat)
     have hle := (searchF_le (lowS (metE p) (reckS t meter p.a.Day (daysP p).toNat) (lampsS t x p.a.Day (daysP p).toNat)) c 0 c (by omega)).2
     have w2 : IntKind.i64.wrap ((1 : Int) + (searchF (lowS (metE p) (reckS t meter p.a.Day (daysP p).toNat) (lampsS t x p.a.Day (daysP p).toNat)) c 0 c : Nat)) = (leastS (metE p) (reckS t meter p.a.Day (daysP p).toNat) (lampsS t x p.a.Day (daysP p).toNat) c : Nat) := by
      unfold leastS; rw [i64 (by omega)]; omega
     have hX : suspX t meter p k x = if leastS (metE p) (reckS t meter p.a.Day (daysP p).toNat) (lampsS t x p.a.Day (daysP p).toNat) c ≤ mostS (metE p) (reckS t meter p.a.Day (daysP p).toNat) (lampsS t x p.a.Day (daysP p).toNat) c then
       [⟨k, leastS (metE p) (reckS t meter p.a.Day (daysP p).toNat) (lampsS t x p.a.Day (daysP p).toNat) c, mostS (metE p) (reckS t meter p.a.Day (daysP p).toNat) (lampsS t x p.a.Day (daysP p).toNat) c⟩] else [] := by
      unfold suspX; rw [if_neg (by simp [g2]), hcx, Int.toNat_natCast]
     rw [← hcx] at kc kd
     refine ⟨_, _, _, k46, _, kc, _, kd, ?_⟩
     rw [w2]
     generalize leastS (metE p) (reckS t meter p.a.Day (daysP p).toNat) (lampsS t x p.a.Day (daysP p).toNat) c = ls at *
     have hmo : searchF (highS (metE p) (reckS t meter p.a.Day (daysP p).toNat) (lampsS t x p.a.Day (daysP p).toNat)) c 0 c = mostS (metE p) (reckS t meter p.a.Day (daysP p).toNat) (lampsS t x p.a.Day (daysP p).toNat) c := rfl
     rw [hmo]
     generalize mostS (metE p) (reckS t meter p.a.Day (daysP p).toNat) (lampsS t x p.a.Day (daysP p).toNat) c = ms at *
     refine ⟨fun g3 => ?_, fun g3 => ?_⟩
     ·have g3 := of_decide_eq_true g3
      rw [if_pos (by omega)] at hX
      refine ⟨fun v hv => (by rw [List.mem_singleton] at hv; rw [hv]; rfl), ⟨by rw [List.length_map]; exact hF.2.1, by rw [List.length_map]; omega, rfl, hF.2.2.1⟩, rfl, rfl, rfl, rfl, rfl, rfl, rfl, rfl, rfl, rfl, rfl, rfl, rfl, rfl, (q ++ [(⟨k, ls, ms⟩ : TMtSuspect)]).map TMtSuspect.av, nextM (f := TMtSuspect.av) (g := TMtSuspect.cs) (fun _ => rfl) _ _, t.Items.length - (k + 1), by omega, k + 1, memD x p.a.Day L (daysP p).toNat, by omega, rfl, memD_nodup hL _, ?_⟩
      rw [w1, hs, hX]; rfl
     ·have g3 := of_decide_eq_false g3
      rw [if_neg (by omega)] at hX
      exact ⟨rfl, rfl, rfl, rfl, rfl, rfl, rfl, rfl, rfl, rfl, rfl, rfl, rfl, rfl, q.map TMtSuspect.av, ⟨rfl, rfl⟩, hnil _ (memD_nodup hL _) hX⟩
   ·have hge : k = t.Items.length := by have := of_decide_eq_false g; omega
    subst hge
    rw [hq]
    refine ⟨?_, ?_, rfl⟩
    ·rw [List.length_map, hF.2.1]; omega
    ·rw [agg71, chunkM (f := TMtSuspect.av) (g := TMtSuspect.cs) (fun _ => rfl) (fun _ => rfl) (fun _ => rfl)]
  ·rcases Nat.lt_or_ge j i with h5 | h5
   ·exact hj j h5
   ·obtain rfl : j = i := by omega
    cases he
    simpa using hr
 ·rintro s28 n29 n30 n31 es32 n33 n34 n35 n36 n37 ⟨hv2, hj⟩
  rw [pairL_len] at hj
  refine ⟨?_, rfl⟩
  rw [if_neg (fun hc => hj r.toNat (by omega) (by omega))]
  rfl)
end Go.Proofs.YtblebiafhhhflaaGreat
namespace Go.Proofs.YtblebiafhhhflaaGreat
open Go.RowKit
theorem searchF_mono {f : Nat → Bool} {N : Nat} (hf : ∀ a b, a ≤ b → b < N → f a = true → f b = true) : ∀ (m i j : Nat), j - i ≤ m → i ≤ j → j ≤ N → (∀ k, k < i → f k = false) → (j = N ∨ f j = true) →
  (∀ k, k < searchF f m i j → f k = false) ∧ (searchF f m i j = N ∨ f (searchF f m i j) = true)
 | 0, i, j, h, hij, _, h1, h2 => by
  obtain rfl : i = j := by omega
  exact ⟨h1, h2⟩
 | m + 1, i, j, h, hij, hj, h1, h2 => by
  rw [searchF_s]
  split
  ·rename_i hlt
   split
   ·rename_i ht
    exact searchF_mono hf m i ((i + j) / 2) (by omega) (by omega) (by omega) h1 (.inr ht)
   ·rename_i ht
    refine searchF_mono hf m ((i + j) / 2 + 1) j (by omega) (by omega) hj (fun k hk => ?_) h2
    cases hfk : f k with
    | false => rfl
    | true => exact absurd (hf k ((i + j) / 2) (by omega) (by omega) hfk) ht
  ·rename_i hlt
   obtain rfl : i = j := by omega
   exact ⟨h1, h2⟩
def itemsT (t : TMtTask) (l : List TMtItem) : TMtTask := { t with Items := l }
theorem lampsS_items (t : TMtTask) (l : List TMtItem) (x : TMtItem) (first : Int) : ∀ k, lampsS (itemsT t l) x first k = lampsS t x first k
 | 0 => rfl
 | k + 1 => by rw [lampsS_s, lampsS_s, lampsS_items t l x first k]; rfl
theorem recX_items (t : TMtTask) (l : List TMtItem) (meter first : Int) (k : Nat) (x : TMtItem) : recX (itemsT t l) meter first k x = recX t meter first k x := by
 unfold recX; rw [lampsS_items]
theorem lampsS_count (t : TMtTask) (x : TMtItem) (c : Int) (first : Int) : ∀ k, lampsS t { x with Count := c } first k = lampsS t x first k
 | 0 => rfl
 | k + 1 => by rw [lampsS_s, lampsS_s, lampsS_count t x c first k]; rfl
theorem lampsS_gone (t : TMtTask) {x : TMtItem} (hx : 0 ≤ x.From ∧ x.From ≤ 40000) (first : Int) : ∀ k, lampsS t { x with Until := x.From } first k = sum0
 | 0 => rfl
 | k + 1 => by
  have hg : ∀ day, goneB { x with Until := x.From } day = true := by
   intro day
   unfold goneB outB
   simp only
   rw [i64 (by omega)]
   simp only [Bool.or_eq_true, decide_eq_true_eq]; omega
  rw [lampsS_s, lampsS_gone t hx first k]
  unfold oneS
  rw [hg, if_pos rfl]
  unfold addS sum0
  rfl
def withoutT (t : TMtTask) (item n : Int) : TMtTask :=
 itemsT t (t.Items.set item.toNat (if n < (itemAt t item).Count then { itemAt t item with Count := (itemAt t item).Count - n } else { itemAt t item with Until := (itemAt t item).From }))
theorem items_same {t : TMtTask} (hv : TaskV t) {i : Nat} {x y : TMtItem} (hx : t.Items[i]? = some x) (hn : y.Name = x.Name) (hy : ItemV t y) : TaskV (itemsT t (t.Items.set i y)) := by
 have L := hv.lens
 have hz := errM_zero hv.it
 have e : itemE (itemsT t (t.Items.set i y)) = itemE t := rfl
 refine ⟨hv.city, hv.cat, hv.np, by show (t.Items.set i y).length ≤ _; rw [List.length_set]; exact hv.ni, hv.nm, hv.pr, hv.me, ?_⟩
 rw [e]
 have := errM_good (nm := TMtItem.Name) (rest := itemE t) (l := t.Items.set i y) ?_ ?_
 ·show (firstE _ (t.Items.set i y).length 0).2 = 0
  rw [show (itemsT t (t.Items.set i y)).Items = t.Items.set i y from rfl, this]
 ·intro z hzm
  rcases List.mem_or_eq_of_mem_set hzm with h | rfl
  ·exact hz.1 z h
  ·exact ⟨by rw [hn]; exact (hz.1 x (List.mem_of_getElem? hx)).1, (itemV_iff L.1 L.2.1 L.2.2).2 hy⟩
 ·have : (t.Items.set i y).map TMtItem.Name = t.Items.map TMtItem.Name := by
   rw [List.map_set, hn]
   obtain ⟨h, rfl⟩ := List.getElem?_eq_some_iff.1 hx
   apply List.ext_getElem
   ·simp
   ·intro j h1 h2
    by_cases hj : i = j
    ·subst hj; simp
    ·rw [List.getElem_set_ne hj]
  rw [this]; exact hz.2
theorem without_ok {t : TMtTask} (hv : TaskV t) {item : Int} (h0 : 0 ≤ item) (h1 : item < t.Items.length) {n : Int} (hn : 1 ≤ n) (hn2 : n ≤ (itemAt t item).Count) :
  TaskV (withoutT t item n) ∧ ∀ (first : Int) (k : Nat), k ≤ 200 → reckS (withoutT t item n) (itemAt t item).Meter first k = ⟨⟨(reckS t (itemAt t item).Meter first k).Encl.Lo - n * (lampsS t (itemAt t item) first k).Encl.Lo, (reckS t (itemAt t item).Meter first k).Encl.Hi - n * (lampsS t (itemAt t item) first k).Encl.Hi⟩⟩ := by
 obtain ⟨hg, hm, _⟩ := item_get h0 h1
 have hi := hv.item hm
 have hc := hi.count
 unfold withoutT
 generalize itemAt t item = x at *
 generalize hy : (if n < x.Count then { x with Count := x.Count - n } else { x with Until := x.From } : TMtItem) = y
 have hyv : ItemV t y ∧ y.Name = x.Name := by
  subst hy
  split
  ·exact ⟨⟨hi.lamp, hi.prof, hi.meter, by simp only; omega, hi.decl, hi.until', hi.from'⟩, rfl⟩
  ·have := hi.until'; have := hi.from'
   exact ⟨⟨hi.lamp, hi.prof, hi.meter, hi.count, hi.decl, by simp only; omega, by simp only; omega⟩, rfl⟩
 have hv' := items_same hv hg hyv.2 hyv.1
 refine ⟨hv', fun first k hk => ?_⟩
 rw [(reckS_val hv'.allLit x.Meter first hk).1, (reckS_val hv.allLit x.Meter first hk).1]
 have e1 : (fun z => (recX (itemsT t (t.Items.set item.toNat y)) x.Meter first k z).Lo) = fun z => (recX t x.Meter first k z).Lo := by funext z; rw [recX_items]
 have e2 : (fun z => (recX (itemsT t (t.Items.set item.toNat y)) x.Meter first k z).Hi) = fun z => (recX t x.Meter first k z).Hi := by funext z; rw [recX_items]
 rw [e1, e2, show (itemsT t (t.Items.set item.toNat y)).Items = t.Items.set item.toNat y from rfl, sumL_set hg, sumL_set hg]
 have ex : recX t x.Meter first k x = ⟨x.Count * (lampsS t x first k).Encl.Lo, x.Count * (lampsS t x first k).Encl.Hi⟩ := by unfold recX; rw [if_pos (by simp)]
 have ey : recX t x.Meter first k y = ⟨(x.Count - n) * (lampsS t x first k).Encl.Lo, (x.Count - n) * (lampsS t x first k).Encl.Hi⟩ := by
  subst hy
  split
  ·unfold recX; rw [if_pos (by simp), lampsS_count]
  ·have hz : x.Count - n = 0 := by omega
   have := hi.until'; have := hi.from'
   unfold recX; rw [if_pos (by simp), lampsS_gone t (by omega), hz]; unfold sum0; simp
 rw [ex, ey]
 simp only [Int.sub_mul]
 generalize x.Count * (lampsS t x first k).Encl.Lo = a
 generalize x.Count * (lampsS t x first k).Encl.Hi = b
 generalize n * (lampsS t x first k).Encl.Lo = c
 generalize n * (lampsS t x first k).Encl.Hi = d
 have q1 : ∀ u v w : Int, u - v + (v - w) = u - w := fun u v w => by omega
 rw [q1, q1]
theorem less_val {t : TMtTask} (hv : TaskV t) {item : Int} (h0 : 0 ≤ item) (h1 : item < t.Items.length) {n : Int} (hn : 1 ≤ n) (hn2 : n ≤ (itemAt t item).Count) (first : Int) {k : Nat} (hk : k ≤ 200) :
  lessE (reckS t (itemAt t item).Meter first k) (lampsS t (itemAt t item) first k) n = hoursE (reckS (withoutT t item n) (itemAt t item).Meter first k) ∧
  lessE (reckS t (itemAt t item).Meter first k) (lampsS t (itemAt t item) first k) n = ⟨((reckS t (itemAt t item).Meter first k).Encl.Lo - n * (lampsS t (itemAt t item) first k).Encl.Lo) / 3600, ((reckS t (itemAt t item).Meter first k).Encl.Hi - n * (lampsS t (itemAt t item) first k).Encl.Hi + 3599) / 3600⟩ := by
 obtain ⟨hv', hr⟩ := without_ok hv h0 h1 hn hn2
 have hr := hr first k hk
 obtain ⟨_, b0, b1, b2⟩ := reckS_val hv'.allLit (itemAt t item).Meter first hk
 obtain ⟨_, c0, c1, c2⟩ := reckS_val hv.allLit (itemAt t item).Meter first hk
 rw [hr] at b0 b1 b2
 have hh := hoursE_val (s := reckS (withoutT t item n) (itemAt t item).Meter first k) (by rw [hr]; exact b0) (by rw [hr]; exact b1) (by rw [hr]; exact b2)
 have hm := (item_get h0 h1).2.1
 have hc := (hv.item hm).count
 have hl := lampsS_bd (hv.allLit.lit _ hm).1 first hk
 have e : lessE (reckS t (itemAt t item).Meter first k) (lampsS t (itemAt t item) first k) n = hoursE (reckS (withoutT t item n) (itemAt t item).Meter first k) := by
  unfold lessE
  rw [hr]
  generalize reckS t (itemAt t item).Meter first k = s at *
  generalize lampsS t (itemAt t item) first k = l at *
  have w : IntKind.i64.wrap (0 - n) = -n := by rw [i64 (by omega)]; omega
  have m1 : 0 ≤ n * l.Encl.Lo := Int.mul_nonneg (by omega) hl.1
  have m2 : 0 ≤ n * l.Encl.Hi := Int.mul_nonneg (by omega) (by omega)
  have m3 : n * l.Encl.Lo ≤ 1000 * l.Encl.Lo := Int.mul_le_mul_of_nonneg_right (by omega) hl.1
  have m4 : n * l.Encl.Hi ≤ 1000 * l.Encl.Hi := Int.mul_le_mul_of_nonneg_right (by omega) (by omega)
  rw [w, addS_exact (by omega) (by omega) (by rw [Int.neg_mul]; omega) (by rw [Int.neg_mul]; omega), Int.neg_mul, Int.neg_mul, ← Int.sub_eq_add_neg, ← Int.sub_eq_add_neg]
 refine ⟨e, ?_⟩
 rw [e, hh, hr]
theorem kind_iff {m r : TEncl} : (verE m r).Kind = 0 ↔ r.Lo ≤ m.Hi ∧ m.Lo ≤ r.Hi := by
 unfold verE
 simp only
 split
 ·simp; omega
 ·split
  ·simp; omega
  ·simp; omega
theorem agrees_val {t : TMtTask} (hv : TaskV t) {meter : Int} (h0 : 0 ≤ meter) (h1 : meter < t.Meters.length) (hn : t.Meters.length ≤ 2 ^ 62) {i : Nat} (hi : i + 1 < (meterAt t meter).Readings.length) :
  (agreesB t meter i = true ↔ (cmpV t meter (pairAt (meterAt t meter) i)).Kind = 0) := by
 have hC : compareR t meter = (cmpL t meter, 0) := by unfold compareR; rw [if_neg (by rw [accE_good hn hv h0 h1]; simp)]
 unfold agreesB
 rw [hC]
 unfold verAt
 simp only [cmpL_len, Int.toNat_natCast, List.getD, cmpL_get hi, Option.getD_some, decide_true, Bool.true_and, Bool.and_eq_true, decide_eq_true_eq, beq_iff_eq]
 constructor
 ·exact fun h => h.2
 ·exact fun h => ⟨by omega, h⟩
theorem suspK_mem {t : TMtTask} {meter : Int} {p : TPair} {s : TMtSuspect} : ∀ {k : Nat}, k ≤ t.Items.length → s ∈ suspK t meter p k → ∃ i x, i < t.Items.length ∧ t.Items[i]? = some x ∧ s ∈ suspX t meter p i x
 | 0, _, h => by cases h
 | k + 1, hk, h => by
  unfold suspK at h
  rcases List.mem_append.1 h with h | h
  ·exact suspK_mem (by omega) h
  ·split at h
   ·rename_i x hx; exact ⟨k, x, by omega, hx, h⟩
   ·cases h
theorem explain {t : TMtTask} {meter r : Int} (hn : t.Meters.length ≤ 2 ^ 62) (h : (suspectsR t meter r).2 = 0) : TaskV t ∧ ∀ s ∈ (suspectsR t meter r).1, 0 ≤ r ∧ 0 ≤ s.Item ∧ s.Item < t.Items.length ∧ 1 ≤ s.Least ∧ s.Least ≤ s.Most ∧ s.Most ≤ (itemAt t s.Item).Count ∧ (itemAt t s.Item).Count ≤ 1000 ∧ (itemAt t s.Item).Meter = meter ∧
  (∀ n, s.Least ≤ n → n ≤ s.Most → agreesB (withoutT t s.Item n) meter r = true) ∧ (1 < s.Least → agreesB (withoutT t s.Item (s.Least - 1)) meter r = false) ∧
  (s.Most < (itemAt t s.Item).Count → agreesB (withoutT t s.Item (s.Most + 1)) meter r = false) := by
 unfold suspectsR at h ⊢
 split at h
 ·rename_i hh; exact absurd h hh
 rename_i a1
 split at h
 case isFalse => simp at h
 rename_i a2
 have hacc : accE t meter 0 t.Meters.length = 0 := Decidable.byContradiction a1
 obtain ⟨hv, g0, g1⟩ := accE_zero hn hacc
 have hmv := hv.meter (meter_get g0 g1).2.1
 refine ⟨hv, ?_⟩
 rw [if_neg a1, if_pos a2]
 intro s hs
 obtain ⟨rn, rfl⟩ : ∃ rn : Nat, r = rn := ⟨r.toNat, by omega⟩
 rw [Int.toNat_natCast] at hs
 have hp := pairAt_v hmv (i := rn) (by omega)
 obtain ⟨i, x, hi, hx, hsx⟩ := suspK_mem (Nat.le_refl _) hs
 have hk : (daysP (pairAt (meterAt t meter) rn)).toNat ≤ 200 := by have := hp.gap; rw [hp.days]; omega
 have hix : itemAt t (i : Nat) = x := by unfold itemAt; rw [Int.toNat_natCast, hx]; rfl
 have hxv := hv.item (List.mem_of_getElem? hx)
 have hc := hxv.count
 have hag : x.Meter = meter → ∀ n : Int, 1 ≤ n → n ≤ x.Count → (agreesB (withoutT t (i : Nat) n) meter rn = true ↔
   (lessE (reckS t meter (pairAt (meterAt t meter) rn).a.Day (daysP (pairAt (meterAt t meter) rn)).toNat) (lampsS t x (pairAt (meterAt t meter) rn).a.Day (daysP (pairAt (meterAt t meter) rn)).toNat) n).Lo ≤ (metE (pairAt (meterAt t meter) rn)).Hi ∧
   (metE (pairAt (meterAt t meter) rn)).Lo ≤ (lessE (reckS t meter (pairAt (meterAt t meter) rn).a.Day (daysP (pairAt (meterAt t meter) rn)).toNat) (lampsS t x (pairAt (meterAt t meter) rn).a.Day (daysP (pairAt (meterAt t meter) rn)).toNat) n).Hi) := by
  intro hxm n hn1 hn2
  have hl := (less_val hv (item := (i : Nat)) (by omega) (by omega) hn1 (by rw [hix]; exact hn2) (pairAt (meterAt t meter) rn).a.Day hk).1
  have hv' := (without_ok hv (item := (i : Nat)) (by omega) (by omega) hn1 (by rw [hix]; exact hn2)).1
  rw [hix, hxm] at hl
  have ha := agrees_val hv' (meter := meter) g0 g1 hn (i := rn) (by show rn + 1 < (meterAt t meter).Readings.length; omega)
  rw [ha, hl]
  exact kind_iff
 have hlv : x.Meter = meter → ∀ n : Int, 1 ≤ n → n ≤ x.Count → _ := fun hxm n hn1 hn2 => (less_val hv (item := (i : Nat)) (by omega) (by omega) hn1 (by rw [hix]; exact hn2) (pairAt (meterAt t meter) rn).a.Day hk).2
 have hlb := lampsS_bd (hv.allLit.lit x (List.mem_of_getElem? hx)).1 (pairAt (meterAt t meter) rn).a.Day hk
 rw [hix] at hlv
 unfold suspX at hsx
 split at hsx
 ·cases hsx
 rename_i hxm
 have hxm : x.Meter = meter := Decidable.byContradiction hxm
 rw [hxm] at hlv
 have hlv := hlv rfl
 have hag := hag hxm
 generalize pairAt (meterAt t meter) rn = p at *
 generalize reckS t meter p.a.Day (daysP p).toNat = all at *
 generalize lampsS t x p.a.Day (daysP p).toNat = one at *
 generalize metE p = m at *
 split at hsx
 case isFalse => cases hsx
 rename_i hlm
 rw [List.mem_singleton] at hsx
 subst hsx
 obtain ⟨c, hcx⟩ : ∃ c : Nat, x.Count = c := ⟨x.Count.toNat, by omega⟩
 rw [hcx, Int.toNat_natCast] at hlm ⊢
 rw [hcx] at hag hlv
 have fall : ∀ n k : Int, 1 ≤ n → n ≤ k → k ≤ c → (lessE all one k).Lo ≤ (lessE all one n).Lo ∧ (lessE all one k).Hi ≤ (lessE all one n).Hi := by
  intro n k h1 h2 h3
  rw [hlv n h1 (by omega), hlv k (by omega) h3]
  have m1 : n * one.Encl.Lo ≤ k * one.Encl.Lo := Int.mul_le_mul_of_nonneg_right h2 hlb.1
  have m2 : n * one.Encl.Hi ≤ k * one.Encl.Hi := Int.mul_le_mul_of_nonneg_right h2 (by omega)
  simp only
  omega
 have hlow := searchF_mono (f := lowS m all one) (N := c) (fun a b hab hb ha => by
  unfold lowS at ha ⊢
  have ha := of_decide_eq_true ha
  have := (fall ((a + 1 : Nat) : Int) ((b + 1 : Nat) : Int) (by omega) (by omega) (by omega)).1
  exact decide_eq_true (by omega)) c 0 c (by omega) (by omega) (by omega) (fun k hk => absurd hk (by omega)) (.inl rfl)
 have hhigh := searchF_mono (f := highS m all one) (N := c) (fun a b hab hb ha => by
  unfold highS at ha ⊢
  have ha := of_decide_eq_true ha
  have := (fall ((a + 1 : Nat) : Int) ((b + 1 : Nat) : Int) (by omega) (by omega) (by omega)).2
  exact decide_eq_true (by omega)) c 0 c (by omega) (by omega) (by omega) (fun k hk => absurd hk (by omega)) (.inl rfl)
 have hle1 := (searchF_le (lowS m all one) c 0 c (by omega)).2
 have hle2 := (searchF_le (highS m all one) c 0 c (by omega)).2
 unfold leastS mostS at hlm ⊢
 generalize searchF (lowS m all one) c 0 c = s1 at *
 generalize searchF (highS m all one) c 0 c = s2 at *
 have hs1 : lowS m all one s1 = true := by
  rcases hlow.2 with h | h
  ·omega
  ·exact h
 simp only [hix]
 refine ⟨by omega, by omega, by omega, by omega, by omega, by rw [hcx]; omega, by omega, hxm, fun n h1 h2 => ?_, fun h1 => ?_, fun h1 => ?_⟩
 ·rw [hag n (by omega) (by omega)]
  unfold lowS at hs1
  have hs1 := of_decide_eq_true hs1
  have f1 := (fall ((s1 + 1 : Nat) : Int) n (by omega) (by omega) (by omega)).1
  have hh := hhigh.1 (s2 - 1) (by omega)
  unfold highS at hh
  have hh := of_decide_eq_false hh
  rw [show s2 - 1 + 1 = s2 by omega] at hh
  have f2 := (fall n (s2 : Nat) (by omega) (by omega) (by omega)).2
  omega
 ·have hh := hlow.1 (s1 - 1) (by omega)
  unfold lowS at hh
  have hh := of_decide_eq_false hh
  rw [show s1 - 1 + 1 = s1 by omega] at hh
  cases hb : agreesB (withoutT t (i : Nat) (((1 + s1 : Nat) : Int) - 1)) meter rn with
  | false => rfl
  | true =>
   have := ((hag _ (by omega) (by omega)).1 hb).1
   rw [show ((1 + s1 : Nat) : Int) - 1 = (s1 : Nat) by omega] at this
   exact absurd this hh
 ·have hs2 : highS m all one s2 = true := by
   rcases hhigh.2 with h | h
   ·omega
   ·exact h
  unfold highS at hs2
  have hs2 := of_decide_eq_true hs2
  cases hb : agreesB (withoutT t (i : Nat) ((s2 : Nat) + 1)) meter rn with
  | false => rfl
  | true =>
   have := ((hag _ (by omega) (by omega)).1 hb).2
   rw [show ((s2 : Nat) : Int) + 1 = ((s2 + 1 : Nat) : Int) by omega] at this
   omega
end Go.Proofs.YtblebiafhhhflaaGreat
